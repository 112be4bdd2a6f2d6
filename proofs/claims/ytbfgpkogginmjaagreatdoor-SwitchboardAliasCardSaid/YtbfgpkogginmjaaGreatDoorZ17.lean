/- Parts of a proof about aliases: B4, B5, B6, B7, C1, C2, C3. -/
import Derived.Laws.IdiomMaps
import Derived.Deep.RegionHeld3
import Derived.Test.YtbfgpkogginmjaaGreatDoorZ16
section
namespace Go.Proofs.YtbfgpkogginmjaaGreatDoor
open Go.RowKit Go.Lib Go.Proofs.YtbfgpkogginmjaaGreatDoorW.PrintWords Go.Proofs.YtbfgpkogginmjaaGreatDoor.PSwitchboardGreat
set_option linter.unusedVariables false
set_option linter.unusedSimpArgs false
set_option maxRecDepth 1000000
section
variable {w : World} {b clock mt kt et : Nat} {es : Array MapEntry} {key v : Value} {K : TypeDesc}
theorem find_k {r : Option (Nat × Value)} (hk : Tryz.prog.underlying kt = some K) (hf : Instr.findNow K key es.toList 0 = some r) : (Instr.findKey kt key es.toList).run Tryz.prog w = .ok r w := by
  simp [Instr.findKey, run_underlying hk, hf, Result.andThen]
theorem look_hit {i : Nat} (ht : Tryz.prog.underlying mt = some (.map kt et)) (hk : Tryz.prog.underlying kt = some K) (hc : MapKept.IsKey K key) (hb : w.heap[b]? = some (.map es clock)) (hf : Instr.findNow K key es.toList 0 = some (some (i, v))) (ok : Bool) : (Instr.lookup mt (.map (some b)) key ok).run Tryz.prog w = .ok (if ok then .tuple #[v, .bool true] else v) w := by
  have hck := fun e => MapKept.run_checkKey (w := w) hk hc e 9999
  simp [Instr.lookup, run_underlying ht, MapKept.run_getObj_map hb, hck, find_k hk hf, Result.andThen]
theorem look_miss {z : Value} (ht : Tryz.prog.underlying mt = some (.map kt et)) (hk : Tryz.prog.underlying kt = some K) (hc : MapKept.IsKey K key) (hz : (zeroValue et).run Tryz.prog w = .ok z w) (hb : w.heap[b]? = some (.map es clock)) (hf : Instr.findNow K key es.toList 0 = some none) (ok : Bool) : (Instr.lookup mt (.map (some b)) key ok).run Tryz.prog w = .ok (if ok then .tuple #[z, .bool false] else z) w := by
  have hck := fun e => MapKept.run_checkKey (w := w) hk hc e 9999
  simp [Instr.lookup, run_underlying ht, MapKept.run_getObj_map hb, hck, find_k hk hf, hz, Result.andThen]
theorem put_new (ht : Tryz.prog.underlying mt = some (.map kt et)) (hk : Tryz.prog.underlying kt = some K) (hc : MapKept.IsKey K key) (hb : w.heap[b]? = some (.map es clock)) (hf : Instr.findNow K key es.toList 0 = some none) : (Instr.mapUpdate mt (.map (some b)) key v).run Tryz.prog w = .ok () (ChangeMaps.setBlock w b (.map (es.push ⟨key, v, clock⟩) (clock + 1))) := by
  have hck := fun e => MapKept.run_checkKey (w := w) hk hc e 9999
  simp [Instr.mapUpdate, run_underlying ht, MapKept.run_getObj_map hb, hck, find_k hk hf, MapKept.run_setObj_map _ hb, Result.andThen, ChangeMaps.setBlock]
theorem del_miss {ty : TypeId} (ht : Tryz.prog.underlying mt = some (.map kt et)) (hk : Tryz.prog.underlying kt = some K) (hc : MapKept.IsKey K key) (hb : w.heap[b]? = some (.map es clock)) (hf : Instr.findNow K key es.toList 0 = some none) : (Builtin.delete_ #[mt, kt] ty #[.map (some b), key]).run Tryz.prog w = .ok (.tuple #[]) (ChangeMaps.setBlock w b (.map es clock)) := by
  have hck := fun e => MapKept.run_checkKey (w := w) hk hc e 9999
  simp [Builtin.delete_, run_underlying ht, MapKept.run_getObj_map hb, hck, find_k hk hf, MapKept.run_setObj_map _ hb, Result.andThen, ChangeMaps.setBlock]
theorem setB_at (o : Obj) {o0 : Obj} (hb : w.heap[b]? = some o0) : (ChangeMaps.setBlock w b o).heap[b]? = some o := by
  have hlt : b < w.heap.size := (Array.getElem?_eq_some_iff.1 hb).1
  unfold ChangeMaps.setBlock
  simp [Array.getElem?_setIfInBounds, hlt]
theorem setB_chg (w : World) (b : Nat) (o : Obj) : Chg (fun k => k = b) w (ChangeMaps.setBlock w b o) := ⟨rfl, rfl, rfl, by unfold ChangeMaps.setBlock; simp, fun i _ hn => by
  unfold ChangeMaps.setBlock
  have : ¬ b = i := fun h => hn h.symm
  simp [Array.getElem?_setIfInBounds, this]⟩
theorem setB_same {o : Obj} (hb : w.heap[b]? = some o) : ChangeMaps.setBlock w b o = w := by
  unfold ChangeMaps.setBlock
  have hlt : b < w.heap.size := (Array.getElem?_eq_some_iff.1 hb).1
  have : w.heap.setIfInBounds b o = w.heap := by
    apply Array.ext_getElem?
    intro i
    rw [Array.getElem?_setIfInBounds]
    by_cases h : b = i
    · subst h; rw [if_pos rfl, if_pos hlt, hb]
    · rw [if_neg h]
  rw [this]
end
end Go.Proofs.YtbfgpkogginmjaaGreatDoor
end
section
namespace Go.Proofs.YtbfgpkogginmjaaGreatDoor
open Go.RowKit Go.Lib Go.Proofs.YtbfgpkogginmjaaGreatDoorW.PrintWords Go.Proofs.YtbfgpkogginmjaaGreatDoor.PSwitchboardGreat
set_option linter.unusedVariables false
set_option linter.unusedSimpArgs false
set_option maxRecDepth 1000000
theorem cell1 {w : World} {bx : Nat} {t : TypeId} {a0 : Value} (h : w.heap[bx]? = some (.cells #[a0] t (0, 0))) : w.cell? ⟨bx, 0, none⟩ = some a0 := (blk_cell h 0).trans rfl
structure NetAt (w : World) (n m : Nat) (es : Array MapEntry) (k : Nat) (c : Int) (ci : Nat) : Prop where
  net : w.heap[n]? = some (.cells #[.map (some m)] 143 (0, 0))
  map : w.heap[m]? = some (.map es k)
  find : ∃ i, Instr.findNow (.int .i64) (.int .i64 c) es.toList 0 = some (some (i, .pointer (some ⟨ci, 0, none⟩)))
def Conn (w : World) (ci : Nat) (wait : ByteArray) (came : Nat) (said : ByteArray) : Prop := w.heap[ci]? = some (.cells #[.string wait, .int .i64 (came : Nat), .bool false, .string said, .bool false] 168 (0, 0))
theorem get_calls' {w : World} {n m k ci came : Nat} {es : Array MapEntry} {c : Int} {wait said : ByteArray} (hn : NetAt w n m es k c ci) (hc : Conn w ci wait came said) : Calls Tryz.prog 57 #[.pointer (some ⟨n, 0, none⟩), .int .i64 c] w (Is (.tuple #[.pointer (some ⟨ci, 0, none⟩), .int .i64 0]) w) := by
  obtain ⟨i, hf⟩ := hn.find
  have hl := look_hit (mt := 141) (key := .int .i64 c) Tryz.underlying141 Tryz.underlying3 (by simp [MapKept.IsKey]) hn.map hf true
  have x0 := cell1 hn.net
  obtain ⟨c0, c1, c2, c3, c4⟩ := cfcell hc
  clear hf hn hc
  go_enter Tryz.func57, Tryz.ntmps57
  go_wp2
  go_ret2
  exact ⟨rfl, rfl⟩
theorem cat_ok {a b : ByteArray} (h : a.size + b.size ≤ 9223372036854775807) : decide (a.size + b.size ≤ 9223372036854775807) = true ∧ (9223372036854775807 < a.size + b.size) = False := ⟨decide_eq_true h, eq_false (Nat.not_lt.2 h)⟩
theorem send_calls {w : World} {ci came : Nat} {wait said s : ByteArray} (hc : Conn w ci wait came said) (hs : wait.size + s.size ≤ 9223372036854775807) : Calls Tryz.prog 58 #[.pointer (some ⟨ci, 0, none⟩), .string s] w (Is (.int .i64 0) (w.setCell ⟨ci, 0, none⟩ (.string (wait ++ s)))) := by
  obtain ⟨q1, q2⟩ := cat_ok hs
  obtain ⟨c0, c1, c2, c3, c4⟩ := cfcell hc
  have f0 := blk_frozen hc 0
  clear hc
  go_enter Tryz.func58, Tryz.ntmps58
  go_wp2
  go_ret
  exact ⟨rfl, rfl⟩
theorem write_calls {w : World} {n m k ci came : Nat} {es : Array MapEntry} {c : Int} {wait said s : ByteArray} (hn : NetAt w n m es k c ci) (hc : Conn w ci wait came said) (hs : wait.size + s.size ≤ 9223372036854775807) : Calls Tryz.prog 39 #[.pointer (some ⟨n, 0, none⟩), .int .i64 c, .string s] w (Is (.int .i64 0) (w.setCell ⟨ci, 0, none⟩ (.string (wait ++ s)))) := by
  have HG := Lib.hid (get_calls' hn hc)
  have HS := Lib.hid (send_calls hc hs)
  clear hn hc hs
  go_enter Tryz.func39, Tryz.ntmps39
  go_wp2_with (first
    | (go_at_call 57; (with_reducible refine (HG.out).mono ?_); rintro e w1 ⟨rfl, rfl⟩)
    | (go_at_call 58; (with_reducible refine (HS.out).mono ?_); rintro e w1 ⟨rfl, rfl⟩))
  go_ret
  exact ⟨rfl, rfl⟩
theorem say_calls {w : World} {n m k ci came : Nat} {es : Array MapEntry} {c : Int} {wait said s : ByteArray} (hn : NetAt w n m es k c ci) (hc : Conn w ci wait came said) (hs : said.size + s.size ≤ 9223372036854775807) : Calls Tryz.prog 122 #[.pointer (some ⟨n, 0, none⟩), .int .i64 c, .string s] w (Is (.int .i64 0) (w.setCell ⟨ci, 3, none⟩ (.string (said ++ s)))) := by
  have HG := Lib.hid (get_calls' hn hc)
  obtain ⟨q1, q2⟩ := cat_ok hs
  obtain ⟨c0, c1, c2, c3, c4⟩ := cfcell hc
  have f3 := blk_frozen hc 3
  clear hn hc
  go_enter Tryz.func122, Tryz.ntmps122
  go_wp2_with (first
    | (go_at_call 57; (with_reducible refine (HG.out).mono ?_); rintro e w1 ⟨rfl, rfl⟩))
  go_ret
  exact ⟨rfl, rfl⟩
theorem said_calls {w : World} {n m k ci came : Nat} {es : Array MapEntry} {c : Int} {wait said : ByteArray} (hn : NetAt w n m es k c ci) (hc : Conn w ci wait came said) : Calls Tryz.prog 48 #[.pointer (some ⟨n, 0, none⟩), .int .i64 c] w (Is (.string said) w) := by
  obtain ⟨i, hf⟩ := hn.find
  have hl := look_hit (mt := 141) (key := .int .i64 c) Tryz.underlying141 Tryz.underlying3 (by simp [MapKept.IsKey]) hn.map hf true
  have x0 := cell1 hn.net
  obtain ⟨c0, c1, c2, c3, c4⟩ := cfcell hc
  clear hf hn hc
  go_enter Tryz.func48, Tryz.ntmps48
  go_wp2
  go_ret
  exact ⟨rfl, rfl⟩
theorem chunk_calls {w : World} {ci came : Nat} {wait said : ByteArray} (hc : Conn w ci wait came said) (n : Int) (hn : (wait.size : Int) < n) (h0 : 0 < wait.size) (hz : came + wait.size ≤ 1000000000) : Calls Tryz.prog 60 #[.pointer (some ⟨ci, 0, none⟩), .int .i64 n] w (Is (.string wait) ((w.setCell ⟨ci, 0, none⟩ (.string ⟨#[]⟩)).setCell ⟨ci, 1, none⟩ (.int .i64 (came + wait.size : Nat)))) := by
  obtain ⟨c0, c1, c2, c3, c4⟩ := cfcell hc
  have f0 := blk_frozen hc 0
  have f1 := blk_frozen hc 1
  have h3 : wrap64 ((came : Int) + (wait.size : Int)) = ((came + wait.size : Nat) : Int) := by unfold wrap64; omega
  have h4 : wait.extract 0 wait.size = wait := by rw [Lib.extract_eq, Lib.size_eq, List.drop_zero, Nat.sub_zero, List.take_length]
  have h5 : wait.extract wait.size wait.size = ⟨#[]⟩ := by rw [Lib.extract_eq, Nat.sub_self, List.take_zero]
  clear hc
  go_enter Tryz.func60, Tryz.ntmps60
  go_wp2
  go_ret
  exact ⟨rfl, rfl⟩
theorem ended_calls {w : World} {ci came : Nat} {wait said : ByteArray} (hc : Conn w ci wait came said) : Calls Tryz.prog 61 #[.pointer (some ⟨ci, 0, none⟩)] w (Is (.bool false) w) := by
  obtain ⟨c0, c1, c2, c3, c4⟩ := cfcell hc
  clear hc
  go_enter Tryz.func61, Tryz.ntmps61
  go_wp2
  go_ret
  exact ⟨rfl, rfl⟩
theorem read_calls {w : World} {n m k ci came : Nat} {es : Array MapEntry} {c : Int} {wait said : ByteArray} (hn : NetAt w n m es k c ci) (hc : Conn w ci wait came said) (most : Int) (hm : (wait.size : Int) < most) (h0 : 0 < wait.size) (hz : came + wait.size ≤ 1000000000) : Calls Tryz.prog 41 #[.pointer (some ⟨n, 0, none⟩), .int .i64 c, .int .i64 most] w (Is (.tuple #[.string wait, .bool false, .int .i64 0]) ((w.setCell ⟨ci, 0, none⟩ (.string ⟨#[]⟩)).setCell ⟨ci, 1, none⟩ (.int .i64 (came + wait.size : Nat)))) := by
  have HG := Lib.hid (get_calls' hn hc)
  have HC := Lib.hid (chunk_calls hc most hm h0 hz)
  have HE := Lib.hid (ended_calls (w := (w.setCell ⟨ci, 0, none⟩ (.string ⟨#[]⟩)).setCell ⟨ci, 1, none⟩ (.int .i64 (came + wait.size : Nat))) (ci := ci) (wait := ⟨#[]⟩) (came := came + wait.size) (said := said) (blk_put (blk_put hc 0 (.string ⟨#[]⟩) rfl) 1 (.int .i64 (came + wait.size : Nat)) rfl))
  clear hn hc hm h0 hz
  generalize ((w.setCell ⟨ci, 0, none⟩ (.string ⟨#[]⟩)).setCell ⟨ci, 1, none⟩ (.int .i64 (came + wait.size : Nat))) = W2 at HC HE ⊢
  go_enter Tryz.func41, Tryz.ntmps41
  go_wp2_with (first
    | (go_at_call 57; (with_reducible refine (HG.out).mono ?_); rintro e w1 ⟨rfl, rfl⟩)
    | (go_at_call 60; (with_reducible refine (HC.out).mono ?_); rintro e w1 ⟨rfl, rfl⟩)
    | (go_at_call 61; (with_reducible refine (HE.out).mono ?_); rintro e w1 ⟨rfl, rfl⟩))
  exact bodyPost_ret (v := .tuple #[.string wait, .bool false, .int .i64 0]) (by simp [results, Tryz.results41, go_sem]) rfl ⟨rfl, rfl⟩
def conn0 : Obj := .cells #[.string ⟨#[]⟩, .int .i64 0, .bool false, .string ⟨#[]⟩, .bool false] 168
theorem popen_calls {w : World} {n m k : Nat} {es : Array MapEntry} {c : Int} (hnet : w.heap[n]? = some (.cells #[.map (some m)] 143 (0, 0))) (hmap : w.heap[m]? = some (.map es k)) (hf : Instr.findNow (.int .i64) (.int .i64 c) es.toList 0 = some none) : Calls Tryz.prog 36 #[.pointer (some ⟨n, 0, none⟩), .int .i64 c] w (Is (.int .i64 0) (ChangeMaps.setBlock (w.alloc conn0) m (.map (es.push ⟨.int .i64 c, .pointer (some ⟨w.heap.size, 0, none⟩), k⟩) (k + 1)))) := by
  have hl := look_miss (mt := 141) (key := .int .i64 c) (z := .pointer none) Tryz.underlying141 Tryz.underlying3 (by simp [MapKept.IsKey]) (by simp [Tryz.zeroValue163]) hmap hf true
  have hp := put_new (w := w.alloc conn0) (mt := 141) (key := .int .i64 c) (v := .pointer (some ⟨w.heap.size, 0, none⟩)) Tryz.underlying141 Tryz.underlying3 (by simp [MapKept.IsKey]) (blk_alloc hmap conn0) hf
  have x0 := cell1 hnet
  unfold conn0 at hp ⊢
  clear hf hmap hnet
  go_enter Tryz.func36, Tryz.ntmps36
  go_wp2
  go_ret
  exact ⟨rfl, rfl⟩
structure TmAt (w : World) (t m : Nat) : Prop where
  tm : w.heap[t]? = some (.cells #[.map (some m)] 160 (0, 0))
  map : w.heap[m]? = some (.map #[] 0)
theorem stop_calls {w : World} {t m : Nat} (ht : TmAt w t m) (s : ByteArray) : Calls Tryz.prog 96 #[.pointer (some ⟨t, 0, none⟩), .string s] w (Is (.bool false) w) := by
  have hl := look_miss (mt := 158) (key := .string s) (z := .int .i64 0) Tryz.underlying158 Tryz.underlying9 (by simp [MapKept.IsKey]) (Tryz.zeroValue3 w) ht.map rfl true
  have hd := fun ty => del_miss (mt := 158) (key := .string s) (ty := ty) Tryz.underlying158 Tryz.underlying9 (by simp [MapKept.IsKey]) ht.map rfl
  rw [setB_same ht.map] at hd
  have x0 := cell1 ht.tm
  clear ht
  go_enter Tryz.func96, Tryz.ntmps96
  go_wp2
  go_ret
  exact ⟨rfl, rfl⟩
theorem endkey_calls {w : World} (s : ByteArray) (hs : s.size ≤ 1000) : Calls Tryz.prog 105 #[.string s] w (Is (.string (⟨#[101, 110, 100, 47]⟩ ++ s)) w) := by
  obtain ⟨q1, q2⟩ := cat_ok (a := ⟨#[101, 110, 100, 47]⟩) (b := s) (by show 4 + s.size ≤ _; omega)
  go_enter Tryz.func105, Tryz.ntmps105
  go_wp2
  go_ret
  exact ⟨rfl, rfl⟩
theorem willkey_calls {w : World} (s : ByteArray) (hs : s.size ≤ 1000) : Calls Tryz.prog 106 #[.string s] w (Is (.string (⟨#[119, 105, 108, 108, 47]⟩ ++ s)) w) := by
  obtain ⟨q1, q2⟩ := cat_ok (a := ⟨#[119, 105, 108, 108, 47]⟩) (b := s) (by show 5 + s.size ≤ _; omega)
  go_enter Tryz.func106, Tryz.ntmps106
  go_wp2
  go_ret
  exact ⟨rfl, rfl⟩
def Win (w : World) (g pool : Nat) (most : Int) : Prop := w.heap[g]? = some (.cells #[.pointer (some ⟨pool, 0, none⟩), .slice none 0 0, .int .i64 most] 345 (0, 0))
theorem again_calls {w : World} {g pool : Nat} {most : Int} (h : Win w g pool most) (n : Nat) (hn : 0 < n) : Calls Tryz.prog 149 #[.pointer (some ⟨g, 0, none⟩), .int .i64 n] w (Is (.tuple #[]) (w.setCell ⟨g, 2, none⟩ (.int .i64 n))) := by
  obtain ⟨x0, x1, x2⟩ := frcell h
  have f2 := blk_frozen h 2
  clear h
  go_enter Tryz.func149, Tryz.ntmps149
  go_upto_region 2 with (fail)
  refine wp_loop_rounds 1 ?_
  rw [rounds_succ]
  go_wp2
  exact bodyPost_ret (v := .tuple #[]) (by simp [results, Tryz.results149, go_sem]) rfl ⟨rfl, rfl⟩
theorem resend_calls {w : World} {g pool : Nat} {most : Int} (h : Win w g pool most) : Calls Tryz.prog 165 #[.pointer (some ⟨g, 0, none⟩)] w (Is (.slice none 0 0) w) := by
  obtain ⟨x0, x1, x2⟩ := frcell h
  clear h
  go_enter Tryz.func165, Tryz.ntmps165
  go_upto_region 3 with (fail)
  refine wp_loop_rounds 1 ?_
  rw [rounds_succ]
  go_wp2
  go_ret
  exact ⟨rfl, rfl⟩
structure WlAt (w : World) (g m t tm : Nat) : Prop where
  wl : w.heap[g]? = some (.cells #[.map (some m), .pointer (some ⟨t, 0, none⟩)] 157 (0, 0))
  map : w.heap[m]? = some (.map #[] 0)
  tm : TmAt w t tm
def zeroHeld : Value := .agg #[.string ⟨#[]⟩, .int .i64 0, .int .u8 0, .bool false, .slice none 0 0, .string ⟨#[]⟩, .string ⟨#[]⟩, .int .u32 0]
def heldO : Obj := .cells #[.string ⟨#[]⟩, .int .i64 0, .int .u8 0, .bool false, .slice none 0 0, .string ⟨#[]⟩, .string ⟨#[]⟩, .int .u32 0] 285
theorem TmAt.to {w w' : World} {t m : Nat} (h : TmAt w t m) (hb : Below w.heap.size w w') : TmAt w' t m := ⟨blk_below h.tm hb, (hb.block _ (blk_lt h.map)).trans h.map⟩
theorem wdrop_calls {w : World} {g m t tm : Nat} (h : WlAt w g m t tm) (s : ByteArray) : Calls Tryz.prog 107 #[.pointer (some ⟨g, 0, none⟩), .string s] w (Is (.bool false) (w.alloc heldO)) := by
  have hl := look_miss (mt := 155) (key := .string s) (z := zeroHeld) Tryz.underlying155 Tryz.underlying9 (by simp [MapKept.IsKey]) (Tryz.zeroValue285 w) h.map rfl true
  have hb := (Below.refl w.heap.size w).alloc (Nat.le_refl _) heldO
  have hmap := (hb.block _ (blk_lt h.map)).trans h.map
  have hd := fun ty => del_miss (w := w.alloc heldO) (mt := 155) (key := .string s) (ty := ty) Tryz.underlying155 Tryz.underlying9 (by simp [MapKept.IsKey]) hmap rfl
  rw [setB_same hmap] at hd
  have HST := Lib.hid (stop_calls (h.tm.to hb) s)
  have x0 : w.cell? ⟨g, 0, none⟩ = some (.map (some m)) := (blk_cell h.wl 0).trans rfl
  have x1 : w.cell? ⟨g, 1, none⟩ = some (.pointer (some ⟨t, 0, none⟩)) := (blk_cell h.wl 1).trans rfl
  have y0 : (w.alloc heldO).cell? ⟨g, 0, none⟩ = some (.map (some m)) := (blk_cell (blk_below h.wl hb) 0).trans rfl
  have y1 : (w.alloc heldO).cell? ⟨g, 1, none⟩ = some (.pointer (some ⟨t, 0, none⟩)) := (blk_cell (blk_below h.wl hb) 1).trans rfl
  unfold heldO at HST hd y0 y1 ⊢
  unfold zeroHeld at hl
  clear h hb hmap
  go_enter Tryz.func107, Tryz.ntmps107
  go_wp2_with (first
    | (go_at_call 96; (with_reducible refine (HST.out).mono ?_); rintro e w1 ⟨rfl, rfl⟩))
  go_ret
  exact ⟨rfl, rfl⟩
def sessO (id : ByteArray) (inn win que : Nat) : Obj := .cells #[.string id, .int .i64 0, .int .i64 0, .int .u32 0, .pointer (some ⟨inn, 0, none⟩), .pointer (some ⟨win, 0, none⟩), .pointer (some ⟨que, 0, none⟩), .bool false, .int .i64 0] 248
def snewW (w : World) (id : ByteArray) : World := (qunewW (wdnewW (innewW (w.alloc (.cells #[.int .i64 40, .int .i64 30] 225)).drew))).alloc (sessO id (w.heap.size + 2) (w.heap.size + 5) (w.heap.size + 6))
theorem innew_below (w : World) : Below w.heap.size w (innewW w) := ((Below.refl _ _).alloc (Nat.le_refl _) _).alloc (by simp) _
theorem wdnew_below (w : World) : Below w.heap.size w (wdnewW w) := (((Below.refl w.heap.size w).alloc (Nat.le_refl _) _).alloc (by simp) _).alloc (by simp [idnewW]; omega) _
theorem qunew_below (w : World) : Below w.heap.size w (qunewW w) := (Below.refl _ _).alloc (Nat.le_refl _) _
theorem snew_calls {w : World} (id : ByteArray) : Calls Tryz.prog 102 #[.string id, .agg #[.int .i64 40, .int .i64 30]] w (Is (.pointer (some ⟨w.heap.size + 7, 0, none⟩)) (snewW w id)) := by
  have HX0 := Lib.hid (heap_alloc_new w (.cells #[.int .i64 40, .int .i64 30] 225))
  have hbd : Below (w.alloc (.cells #[.int .i64 40, .int .i64 30] 225)).heap.size (w.alloc (.cells #[.int .i64 40, .int .i64 30] 225)) (w.alloc (.cells #[.int .i64 40, .int .i64 30] 225)).drew := ⟨rfl, rfl, rfl, Nat.le_refl _, fun _ _ => rfl⟩
  have HX1 := Lib.hid (blk_below HX0.out hbd)
  have HX2 := Lib.hid (blk_below HX1.out (innew_below _))
  have HX3 := Lib.hid (blk_below HX2.out (wdnew_below _))
  have HX4 := Lib.hid (blk_below HX3.out (qunew_below _))
  have two : ∀ {W : World} {b : Nat} {a0 a1 : Value} {t : TypeId}, W.heap[b]? = some (.cells #[a0, a1] t (0, 0)) → W.cell? ⟨b, 0, none⟩ = some a0 ∧ W.cell? ⟨b, 1, none⟩ = some a1 := fun h => ⟨(blk_cell h 0).trans rfl, (blk_cell h 1).trans rfl⟩
  have k1 := two HX1.out
  have k2 := two HX2.out
  have k3 := two HX3.out
  have k4 := two HX4.out
  have K1 := Lib.hid k1
  have K2 := Lib.hid k2
  have K3 := Lib.hid k3
  have K4 := Lib.hid k4
  have x0 := k1.1
  have x1 := k1.2
  clear k1 k2 k3 k4 two hbd HX1 HX2 HX3 HX4 HX0
  go_enter Tryz.func102, Tryz.ntmps102
  go_upto_region 1 with (fail)
  go_region_held3 (fun w' => w'.cell? ⟨w.heap.size, 0, none⟩ = some (.int .i64 40) ∧ w'.cell? ⟨w.heap.size, 1, none⟩ = some (.int .i64 30)) (first | exact K1.out | exact K2.out | exact K3.out | exact K4.out | go_keep) (first
    | (go_at_call 146; (with_reducible refine (innew_calls).mono ?_); rintro e w1 ⟨rfl, rfl⟩)
    | (go_at_call 147; (with_reducible refine (wdnew_calls).mono ?_); rintro e w1 ⟨rfl, rfl⟩)
    | (go_at_call 148; (with_reducible refine (qunew_calls).mono ?_); rintro e w1 ⟨rfl, rfl⟩))
  go_wp2
  go_ret
  exact ⟨by simp [innewW, wdnewW, idnewW, qunewW], by simp [snewW, sessO, innewW, wdnewW, idnewW, qunewW]⟩
def Sess (w : World) (g : Nat) (id : ByteArray) (rc most : Int) (ex : Int) (inn win que : Nat) (on : Bool) : Prop := w.heap[g]? = some (.cells #[.string id, .int .i64 rc, .int .i64 most, .int .u32 ex, .pointer (some ⟨inn, 0, none⟩), .pointer (some ⟨win, 0, none⟩), .pointer (some ⟨que, 0, none⟩), .bool on, .int .i64 0] 248 (0, 0))
theorem ninecell {w : World} {bx : Nat} {t : TypeId} {a0 a1 a2 a3 a4 a5 a6 a7 a8 : Value} (h : w.heap[bx]? = some (.cells #[a0, a1, a2, a3, a4, a5, a6, a7, a8] t (0, 0))) : w.cell? ⟨bx, 0, none⟩ = some a0 ∧ w.cell? ⟨bx, 1, none⟩ = some a1 ∧ w.cell? ⟨bx, 2, none⟩ = some a2 ∧ w.cell? ⟨bx, 3, none⟩ = some a3 ∧ w.cell? ⟨bx, 4, none⟩ = some a4 ∧ w.cell? ⟨bx, 5, none⟩ = some a5 ∧ w.cell? ⟨bx, 6, none⟩ = some a6 ∧ w.cell? ⟨bx, 7, none⟩ = some a7 ∧ w.cell? ⟨bx, 8, none⟩ = some a8 :=
  ⟨(blk_cell h 0).trans rfl, (blk_cell h 1).trans rfl, (blk_cell h 2).trans rfl, (blk_cell h 3).trans rfl, (blk_cell h 4).trans rfl, (blk_cell h 5).trans rfl, (blk_cell h 6).trans rfl, (blk_cell h 7).trans rfl, (blk_cell h 8).trans rfl⟩
theorem chg_setc' {w : World} (b i : Nat) (u : Value) : Chg (fun k => k = b) w (w.setCell ⟨b, i, none⟩ u) := ⟨rfl, rfl, rfl, by simp [World.setCell], fun k _ hn => Below.heap_setCell w ⟨b, i, none⟩ u k hn⟩
def StartP (w : World) (g : Nat) (id : ByteArray) (rc : Nat) (most ex : Int) (inn win pool que : Nat) (e : Ending) (w' : World) : Prop := e = .returned (.tuple #[]) ∧ Sess w' g id rc most ex inn win que true ∧ Win w' win pool rc ∧ Chg (fun k => k = g ∨ k = win) w w'
set_option maxHeartbeats 1000000 in
theorem start_calls {w : World} {g inn win pool que : Nat} {id : ByteArray} {m0 : Int} (hs : Sess w g id 0 0 0 inn win que false) (hw : Win w win pool m0) (rc : Nat) (h0 : 0 < rc) (most ex : Int) : Calls Tryz.prog 103 #[.pointer (some ⟨g, 0, none⟩), .agg #[.int .i64 rc, .int .i64 most, .int .u32 ex]] w (StartP w g id rc most ex inn win pool que) := by
  have hne : g ≠ win := fun h => by
    have h1 : w.heap[g]? = _ := hs
    have h2 : w.heap[win]? = _ := hw
    rw [h, h2] at h1
    injection h1 with h1
    injection h1 with _ h1 _
    exact absurd h1 (by decide)
  have HX0 := Lib.hid (heap_alloc_new w (.cells #[.int .i64 rc, .int .i64 most, .int .u32 ex] 229))
  have hb := (Below.refl w.heap.size w).alloc (Nat.le_refl _) (.cells #[.int .i64 rc, .int .i64 most, .int .u32 ex] 229)
  have HS0 := Lib.hid (blk_below hs hb)
  have HW0 := Lib.hid (blk_below hw hb)
  have HC0 := Lib.hid (Chg.of_below (S := fun k => k = g ∨ k = win) hb)
  have HNE := Lib.hid hne
  have HNX := Lib.hid (show w.heap.size ≠ g ∧ w.heap.size ≠ win by have h1 := blk_lt hs; have h2 := blk_lt hw; omega)
  clear hs hw hb hne
  go_enter Tryz.func103, Tryz.ntmps103
  go_upto_region 1 with (fail)
  generalize (w.alloc (.cells #[.int .i64 rc, .int .i64 most, .int .u32 ex] 229)) = W0 at HX0 HS0 HW0 HC0 ⊢
  have HXD := Lib.hid (HX0.out)
  have HSD := Lib.hid (HS0.out)
  obtain ⟨b0, b1, b2⟩ := frcell HXD.out
  obtain ⟨s0, s1, s2, s3, s4, s5, s6, s7, s8⟩ := ninecell HSD.out
  have f1 := blk_frozen HSD.out 1
  have f2 := blk_frozen HSD.out 2
  have f3 := blk_frozen HSD.out 3
  have f7 := blk_frozen HSD.out 7
  have hn1 : w.heap.size ≠ g := HNX.out.1
  have hn2 : g ≠ w.heap.size := hn1.symm
  go_region
  have HS1 := Lib.hid (show Sess (((((W0.setCell ⟨g, 7, none⟩ (.bool true)).setCell ⟨g, 1, none⟩ (.int .i64 rc)).setCell ⟨g, 2, none⟩ (.int .i64 most)).setCell ⟨g, 3, none⟩ (.int .u32 ex)).drew) g id rc most ex inn win que true from blk_put (blk_put (blk_put (blk_put HSD.out 7 (.bool true) rfl) 1 (.int .i64 rc) rfl) 2 (.int .i64 most) rfl) 3 (.int .u32 ex) rfl)
  have HG1 := Lib.hid (show Chg (fun k => k = g) W0 (((((W0.setCell ⟨g, 7, none⟩ (.bool true)).setCell ⟨g, 1, none⟩ (.int .i64 rc)).setCell ⟨g, 2, none⟩ (.int .i64 most)).setCell ⟨g, 3, none⟩ (.int .u32 ex)).drew) from ((((chg_setc' g 7 _).trans (chg_setc' g 1 _)).trans (chg_setc' g 2 _)).trans (chg_setc' g 3 _)).drew)
  generalize (((((W0.setCell ⟨g, 7, none⟩ (.bool true)).setCell ⟨g, 1, none⟩ (.int .i64 rc)).setCell ⟨g, 2, none⟩ (.int .i64 most)).setCell ⟨g, 3, none⟩ (.int .u32 ex)).drew) = W1 at HS1 HG1 ⊢
  have HX1 := Lib.hid (HG1.out.blk HX0.out hn1)
  have HW1 := Lib.hid (HG1.out.blk HW0.out HNE.out.symm)
  have HC1 := Lib.hid (HC0.out.then_ HG1.out (fun k hk => .inl (.inl hk)))
  clear b0 b1 b2 s0 s1 s2 s3 s4 s5 s6 s7 s8 f1 f2 f3 f7 hn1 hn2 HXD HSD HX0 HS0 HW0 HC0 HG1
  go_upto_region 2 with (fail)
  have hbd : Below W1.heap.size W1 W1.drew := ⟨rfl, rfl, rfl, Nat.le_refl _, fun _ _ => rfl⟩
  have HAG := Lib.hid (again_calls (show Win W1.drew win pool m0 from blk_below HW1.out hbd) rc h0)
  obtain ⟨b0, b1, b2⟩ := frcell (blk_below HX1.out hbd)
  obtain ⟨s0, s1, s2, s3, s4, s5, s6, s7, s8⟩ := ninecell (blk_below HS1.out hbd)
  have hz := (chg_setc' (w := W1.drew) win 2 (.int .i64 rc))
  have y0 := hz.cell b0 HNX.out.2
  have y5 := hz.cell s5 HNE.out
  clear hz hbd
  go_region_held3 (fun w' => w'.cell? ⟨g, 5, none⟩ = some (.pointer (some ⟨win, 0, none⟩)) ∧ w'.cell? ⟨w.heap.size, 0, none⟩ = some (.int .i64 rc)) (first | exact ⟨s5, b0⟩ | exact ⟨y5, y0⟩ | go_keep) (first
    | (go_at_call 149; (with_reducible refine (HAG.out).mono ?_); rintro e w9 ⟨rfl, rfl⟩))
  go_wp2
  exact bodyPost_ret (v := .tuple #[]) (by simp [results, Tryz.results103, go_sem]) rfl ⟨rfl, (chg_setc' (w := W1.drew) win 2 (.int .i64 rc)).blk HS1.out HNE.out, blk_put HW1.out 2 (.int .i64 rc) rfl, HC1.out.drew.then_ (chg_setc' (w := W1.drew) win 2 (.int .i64 rc)) (fun k hk => .inl (.inr hk))⟩
def RB (v : Value) (w : World) (e : Ending) (w' : World) : Prop := e = .returned v ∧ Below w.heap.size w w'
def nil : Value := .slice none 0 0
def prop0 : Value := .agg #[.int .i64 0, .int .u32 0, .string ⟨#[]⟩, .string ⟨#[]⟩]
def msg (f n : ByteArray) : Value := .agg #[.string f, .int .i64 0, .int .u8 0, .bool false, .slice none 0 0, .string n, .string ⟨#[]⟩]
def msg0 : Value := .agg #[.string ⟨#[]⟩, .int .i64 0, .int .u8 0, .bool false, .slice none 0 0, .string ⟨#[]⟩, .string ⟨#[]⟩]
theorem eqnil {w : World} (d : Nat) (t e : TypeId) (h : Tryz.prog.underlying t = some (.slice e)) : Sem.run Tryz.prog (Op.equalIn (d + 1) t (Value.slice none 0 0) (Value.slice none 0 0)) w = .ok true w := by
  simp [Op.equalIn, run_underlying h]
theorem snil {w : World} (t e : TypeId) (h : Tryz.prog.underlying t = some (.slice e)) : Sem.run Tryz.prog (binOp BinOp.eql t (Value.slice none 0 0) (Value.slice none 0 0)) w = .ok (.bool true) w := by
  simp only [binOp, Op.equal, Op.maxDepth, Sem.run_bind, eqnil 9999 t e h, Result.andThen_ok, Sem.run_pure]
theorem bel1 (w : World) (o : Obj) : Below w.heap.size w (w.alloc o) := (Below.refl _ _).alloc (Nat.le_refl _) o
theorem bel_alloc {w W : World} {o : Obj} (h : Below w.heap.size w W) : Below w.heap.size w (W.alloc o) := h.alloc h.size o
theorem bel_set {w W : World} {b i : Nat} {u : Value} (h : Below w.heap.size w W) (hb : w.heap.size ≤ b) : Below w.heap.size w (W.setCell ⟨b, i, none⟩ u) := h.setCell hb u
theorem Below.into {w W w1 : World} (h : Below w.heap.size w W) (k : Below W.heap.size W w1) : Below w.heap.size w w1 := h.trans (k.mono h.size)
theorem getn_calls {w : World} (k : Int) : Calls Tryz.prog 12 #[.slice none 0 0, .int .i64 k] w (RB (.tuple #[prop0, .bool false]) w) := by
  unfold prop0
  go_enter Tryz.func12, Tryz.ntmps12
  go_upto_region 2 with (fail)
  refine wp_loop_rounds 1 ?_
  rw [rounds_succ]
  go_wp2
  refine bodyPost_ret (v := .tuple #[.agg #[.int .i64 0, .int .u32 0, .string ⟨#[]⟩, .string ⟨#[]⟩], .bool false]) (by simp [results, Tryz.results12, go_sem]) rfl ⟨rfl, ?_⟩
  exact bel1 _ _
theorem clonep_calls {w : World} : Calls Tryz.prog 192 #[.slice none 0 0] w (Is (.slice none 0 0) w) := by
  have hq := snil (w := w) 40 38 Tryz.underlying40
  go_enter Tryz.func192, Tryz.ntmps192
  go_wp2
  go_ret
  exact ⟨rfl, rfl⟩
theorem left_calls {w : World} (f n : ByteArray) (now : Int) : Calls Tryz.prog 218 #[msg f n, .int .i64 now] w (RB (.tuple #[.int .i64 0, .bool false]) w) := by
  have HG := fun W => Lib.hid (getn_calls (w := W) 2)
  unfold msg
  unfold prop0 at HG
  go_enter Tryz.func218, Tryz.ntmps218
  go_wp2_with (first
    | (go_at_call 12; (with_reducible refine ((HG _).out).mono ?_); rintro e w1 ⟨rfl, hb⟩))
  go_ret2
  exact ⟨rfl, by (with_reducible (repeat (first | exact Below.refl _ _ | assumption | apply Below.drew | apply bel_alloc | (refine Below.into ?_ (by assumption)) | (refine bel_set ?_ (by first | exact Nat.le_refl _ | assumption | omega | (simp only [World.size_alloc]; omega))))))⟩
theorem gone_calls {w : World} (f n : ByteArray) (now : Int) : Calls Tryz.prog 164 #[msg f n, .int .i64 now] w (RB (.bool false) w) := by
  have HG := fun W => Lib.hid (left_calls (w := W) f n now)
  unfold msg at HG ⊢
  go_enter Tryz.func164, Tryz.ntmps164
  go_wp2_with (first
    | (go_at_call 218; (with_reducible refine ((HG _).out).mono ?_); rintro e w1 ⟨rfl, hb⟩))
  go_ret
  exact ⟨rfl, by (with_reducible (repeat (first | exact Below.refl _ _ | assumption | apply Below.drew | apply bel_alloc | (refine Below.into ?_ (by assumption)) | (refine bel_set ?_ (by first | exact Nat.le_refl _ | assumption | omega | (simp only [World.size_alloc]; omega))))))⟩
theorem blk_top {w : World} {o : Obj} {a : Nat} (h : a = w.heap.size) : (w.alloc o).heap[a]? = some o := h ▸ heap_alloc_new w o
theorem sevencell {w : World} {bx : Nat} {t : TypeId} {a0 a1 a2 a3 a4 a5 a6 : Value} (h : w.heap[bx]? = some (.cells #[a0, a1, a2, a3, a4, a5, a6] t (0, 0))) : w.cell? ⟨bx, 0, none⟩ = some a0 ∧ w.cell? ⟨bx, 1, none⟩ = some a1 ∧ w.cell? ⟨bx, 2, none⟩ = some a2 ∧ w.cell? ⟨bx, 3, none⟩ = some a3 ∧ w.cell? ⟨bx, 4, none⟩ = some a4 ∧ w.cell? ⟨bx, 5, none⟩ = some a5 ∧ w.cell? ⟨bx, 6, none⟩ = some a6 :=
  ⟨(blk_cell h 0).trans rfl, (blk_cell h 1).trans rfl, (blk_cell h 2).trans rfl, (blk_cell h 3).trans rfl, (blk_cell h 4).trans rfl, (blk_cell h 5).trans rfl, (blk_cell h 6).trans rfl⟩
theorem put7 {w : World} {b : Nat} {t : TypeId} {a0 a1 a2 a3 a4 a5 a6 : Value} (h : w.heap[b]? = some (.cells #[a0, a1, a2, a3, a4, a5, a6] t (0, 0))) (v0 v1 v2 v3 v4 v5 v6 : Value) : (((((((w.setCell ⟨b, 0, none⟩ v0).setCell ⟨b, 1, none⟩ v1).setCell ⟨b, 2, none⟩ v2).setCell ⟨b, 3, none⟩ v3).setCell ⟨b, 4, none⟩ v4).setCell ⟨b, 5, none⟩ v5).setCell ⟨b, 6, none⟩ v6).heap[b]? = some (.cells #[v0, v1, v2, v3, v4, v5, v6] t (0, 0)) := by
  have h0 : (w.setCell ⟨b, 0, none⟩ v0).heap[b]? = some (.cells #[v0, a1, a2, a3, a4, a5, a6] t (0, 0)) := blk_put h 0 v0 rfl
  generalize (w.setCell ⟨b, 0, none⟩ v0) = w0 at h0 ⊢
  have h1 : (w0.setCell ⟨b, 1, none⟩ v1).heap[b]? = some (.cells #[v0, v1, a2, a3, a4, a5, a6] t (0, 0)) := blk_put h0 1 v1 rfl
  generalize (w0.setCell ⟨b, 1, none⟩ v1) = w1 at h1 ⊢
  have h2 : (w1.setCell ⟨b, 2, none⟩ v2).heap[b]? = some (.cells #[v0, v1, v2, a3, a4, a5, a6] t (0, 0)) := blk_put h1 2 v2 rfl
  generalize (w1.setCell ⟨b, 2, none⟩ v2) = w2 at h2 ⊢
  have h3 : (w2.setCell ⟨b, 3, none⟩ v3).heap[b]? = some (.cells #[v0, v1, v2, v3, a4, a5, a6] t (0, 0)) := blk_put h2 3 v3 rfl
  generalize (w2.setCell ⟨b, 3, none⟩ v3) = w3 at h3 ⊢
  have h4 : (w3.setCell ⟨b, 4, none⟩ v4).heap[b]? = some (.cells #[v0, v1, v2, v3, v4, a5, a6] t (0, 0)) := blk_put h3 4 v4 rfl
  generalize (w3.setCell ⟨b, 4, none⟩ v4) = w4 at h4 ⊢
  have h5 : (w4.setCell ⟨b, 5, none⟩ v5).heap[b]? = some (.cells #[v0, v1, v2, v3, v4, v5, a6] t (0, 0)) := blk_put h4 5 v5 rfl
  generalize (w4.setCell ⟨b, 5, none⟩ v5) = w5 at h5 ⊢
  have h6 : (w5.setCell ⟨b, 6, none⟩ v6).heap[b]? = some (.cells #[v0, v1, v2, v3, v4, v5, v6] t (0, 0)) := blk_put h5 6 v6 rfl
  generalize (w5.setCell ⟨b, 6, none⟩ v6) = w6 at h6 ⊢
  exact h6
def pubv (n : ByteArray) : Value := .agg #[.bool false, .bool false, .int .u8 0, .int .u32 0, .slice none 0 0, .string n, .string ⟨#[]⟩]
set_option maxHeartbeats 1000000 in
theorem pub_calls {w : World} (f n : ByteArray) (now : Int) : Calls Tryz.prog 220 #[msg f n, .int .i64 now] w (RB (pubv n) w) := by
  have HC := fun W => Lib.hid (clonep_calls (w := W))
  have HL := fun W => Lib.hid (left_calls (w := W) f n now)
  unfold msg at HL ⊢
  unfold pubv
  have HM := Lib.hid (show ((((w.alloc (Obj.cells #[.string f, .int .i64 0, .int .u8 0, .bool false, .slice none 0 0, .string n, .string ⟨#[]⟩] 278)).alloc (Obj.cells #[.bool false, .bool false, .int .u8 0, .int .u32 0, .slice none 0 0, .string ⟨#[]⟩, .string ⟨#[]⟩] 42)).alloc (Obj.cells #[.bool false, .bool false, .int .u8 0, .int .u32 0, .slice none 0 0, .string n, .string ⟨#[]⟩] 42)).drew).heap[w.heap.size]? = some (Obj.cells #[.string f, .int .i64 0, .int .u8 0, .bool false, .slice none 0 0, .string n, .string ⟨#[]⟩] 278) from blk_alloc (blk_alloc (blk_top rfl) _) _)
  have HR := Lib.hid (show ((((w.alloc (Obj.cells #[.string f, .int .i64 0, .int .u8 0, .bool false, .slice none 0 0, .string n, .string ⟨#[]⟩] 278)).alloc (Obj.cells #[.bool false, .bool false, .int .u8 0, .int .u32 0, .slice none 0 0, .string ⟨#[]⟩, .string ⟨#[]⟩] 42)).alloc (Obj.cells #[.bool false, .bool false, .int .u8 0, .int .u32 0, .slice none 0 0, .string n, .string ⟨#[]⟩] 42)).drew).heap[w.heap.size + 1]? = some (Obj.cells #[.bool false, .bool false, .int .u8 0, .int .u32 0, .slice none 0 0, .string ⟨#[]⟩, .string ⟨#[]⟩] 42) from blk_alloc (blk_top (by simp [World.size_alloc])) _)
  have HX := Lib.hid (show ((((w.alloc (Obj.cells #[.string f, .int .i64 0, .int .u8 0, .bool false, .slice none 0 0, .string n, .string ⟨#[]⟩] 278)).alloc (Obj.cells #[.bool false, .bool false, .int .u8 0, .int .u32 0, .slice none 0 0, .string ⟨#[]⟩, .string ⟨#[]⟩] 42)).alloc (Obj.cells #[.bool false, .bool false, .int .u8 0, .int .u32 0, .slice none 0 0, .string n, .string ⟨#[]⟩] 42)).drew).heap[w.heap.size + 1 + 1]? = some (Obj.cells #[.bool false, .bool false, .int .u8 0, .int .u32 0, .slice none 0 0, .string n, .string ⟨#[]⟩] 42) from blk_top (by simp [World.size_alloc]))
  have HB := Lib.hid (show Below w.heap.size w ((((w.alloc (Obj.cells #[.string f, .int .i64 0, .int .u8 0, .bool false, .slice none 0 0, .string n, .string ⟨#[]⟩] 278)).alloc (Obj.cells #[.bool false, .bool false, .int .u8 0, .int .u32 0, .slice none 0 0, .string ⟨#[]⟩, .string ⟨#[]⟩] 42)).alloc (Obj.cells #[.bool false, .bool false, .int .u8 0, .int .u32 0, .slice none 0 0, .string n, .string ⟨#[]⟩] 42)).drew) by (with_reducible (repeat (first | exact Below.refl _ _ | assumption | apply Below.drew | apply bel_alloc | (refine Below.into ?_ (by assumption)) | (refine bel_set ?_ (by first | exact Nat.le_refl _ | assumption | omega | (simp only [World.size_alloc]; omega)))))))
  go_enter Tryz.func220, Tryz.ntmps220
  go_upto_region 1 with (fail)
  go_region_held3 (fun w' => w'.cell? ⟨w.heap.size, 2, none⟩ = some (.int .u8 0) ∧ w'.cell? ⟨w.heap.size, 3, none⟩ = some (.bool false) ∧ w'.cell? ⟨w.heap.size, 4, none⟩ = some (.slice none 0 0) ∧ w'.cell? ⟨w.heap.size, 5, none⟩ = some (.string n) ∧ w'.cell? ⟨w.heap.size, 6, none⟩ = some (.string ⟨#[]⟩)) (first | exact ⟨rfl, rfl, rfl, rfl, rfl⟩ | go_keep) (first
    | (go_at_call 192; (with_reducible refine ((HC _).out).mono ?_); rintro e w1 ⟨rfl, rfl⟩))
  all_goals (
    generalize ((((w.alloc (Obj.cells #[.string f, .int .i64 0, .int .u8 0, .bool false, .slice none 0 0, .string n, .string ⟨#[]⟩] 278)).alloc (Obj.cells #[.bool false, .bool false, .int .u8 0, .int .u32 0, .slice none 0 0, .string ⟨#[]⟩, .string ⟨#[]⟩] 42)).alloc (Obj.cells #[.bool false, .bool false, .int .u8 0, .int .u32 0, .slice none 0 0, .string n, .string ⟨#[]⟩] 42)).drew) = W1 at HM HR HX HB ⊢
    obtain ⟨m0, m1, m2, m3, m4, m5, m6⟩ := sevencell HM.out
    go_wp2_with (first
    | (go_at_call 218; (with_reducible refine ((HL _).out).mono ?_); rintro e w2 ⟨rfl, hb⟩; have HR2 := Lib.hid (blk_below HR.out hb); have HX2 := Lib.hid (blk_below HX.out hb); have HB2 := Lib.hid (HB.out.trans (hb.mono HB.out.size)); obtain ⟨x0, x1, x2, x3, x4, x5, x6⟩ := sevencell HX2.out; obtain ⟨r0, r1, r2, r3, r4, r5, r6⟩ := sevencell HR2.out; have f0 := blk_frozen HR2.out 0; have f1 := blk_frozen HR2.out 1; have f2 := blk_frozen HR2.out 2; have f3 := blk_frozen HR2.out 3; have f4 := blk_frozen HR2.out 4; have f5 := blk_frozen HR2.out 5; have f6 := blk_frozen HR2.out 6; clear hb))
    have hr := sevencell (put7 HR2.out (.bool false) (.bool false) (.int .u8 0) (.int .u32 0) (.slice none 0 0) (.string n) (.string ⟨#[]⟩))
    have hb := HB2.out
    exact bodyPost_ret (v := .agg #[.bool false, .bool false, .int .u8 0, .int .u32 0, .slice none 0 0, .string n, .string ⟨#[]⟩]) (by simp [results, Tryz.results220, go_sem, hr]) rfl ⟨rfl, by (with_reducible (repeat (first | exact Below.refl _ _ | assumption | apply Below.drew | apply bel_alloc | (refine Below.into ?_ (by assumption)) | (refine bel_set ?_ (by first | exact Nat.le_refl _ | assumption | omega | (simp only [World.size_alloc]; omega))))))⟩)
def Row1 (w : World) (b : Nat) (e : TypeId) (cs : Array Value) : Prop := ∃ X : Array Value, w.heap[b]? = some (.cells (cs ++ X) e (0, 0))
theorem Row1.to {w w' : World} {b : Nat} {e : TypeId} {cs : Array Value} {S : Nat → Prop} (h : Row1 w b e cs) (hc : Chg S w w') (hs : ¬ S b) : Row1 w' b e cs := h.elim fun X hx => ⟨X, hc.blk hx hs⟩
theorem Row1.below {w w' : World} {b : Nat} {e : TypeId} {cs : Array Value} (h : Row1 w b e cs) (hb : Below w.heap.size w w') : Row1 w' b e cs := h.elim fun X hx => ⟨X, blk_below hx hb⟩
theorem Row1.cell {w : World} {b : Nat} {e : TypeId} {cs : Array Value} (h : Row1 w b e cs) (i : Nat) (v : Value) (hv : cs[i]? = some v) : w.cell? ⟨b, i, none⟩ = some v := by
  obtain ⟨X, hx⟩ := h
  have hi : i < cs.size := (Array.getElem?_eq_some_iff.1 hv).1
  rw [blk_cell hx i, Array.getElem?_append_left hi]
  exact hv
def Que (w : World) (q : Nat) (l : Value) : Prop := w.heap[q]? = some (.cells #[l, .int .i64 40] 305 (0, 0))
theorem twocell {w : World} {bx : Nat} {t : TypeId} {a0 a1 : Value} (h : w.heap[bx]? = some (.cells #[a0, a1] t (0, 0))) : w.cell? ⟨bx, 0, none⟩ = some a0 ∧ w.cell? ⟨bx, 1, none⟩ = some a1 := ⟨(blk_cell h 0).trans rfl, (blk_cell h 1).trans rfl⟩
def msgC (f n : ByteArray) : Array Value := #[.string f, .int .i64 0, .int .u8 0, .bool false, .slice none 0 0, .string n, .string ⟨#[]⟩]
theorem set7 {w : World} {b : Nat} {t : TypeId} {a0 a1 a2 a3 a4 a5 a6 : Value} (h : w.heap[b]? = some (.cells #[a0, a1, a2, a3, a4, a5, a6] t (0, 0))) (v0 v1 v2 v3 v4 v5 v6 : Value) : ∃ W, W = (((((((w.setCell ⟨b, 0, none⟩ v0).setCell ⟨b, 1, none⟩ v1).setCell ⟨b, 2, none⟩ v2).setCell ⟨b, 3, none⟩ v3).setCell ⟨b, 4, none⟩ v4).setCell ⟨b, 5, none⟩ v5).setCell ⟨b, 6, none⟩ v6) ∧ W.heap[b]? = some (.cells #[v0, v1, v2, v3, v4, v5, v6] t (0, 0)) ∧ Chg (fun k => k = b) w W := by
  have h0 : (w.setCell ⟨b, 0, none⟩ v0).heap[b]? = some (.cells #[v0, a1, a2, a3, a4, a5, a6] t (0, 0)) := blk_put h 0 v0 rfl
  have k0 : Chg (fun k => k = b) w (w.setCell ⟨b, 0, none⟩ v0) := chg_setc' b 0 v0
  generalize (w.setCell ⟨b, 0, none⟩ v0) = w0 at h0 k0 ⊢
  have h1 : (w0.setCell ⟨b, 1, none⟩ v1).heap[b]? = some (.cells #[v0, v1, a2, a3, a4, a5, a6] t (0, 0)) := blk_put h0 1 v1 rfl
  have k1 : Chg (fun k => k = b) w (w0.setCell ⟨b, 1, none⟩ v1) := k0.trans (chg_setc' b 1 v1)
  generalize (w0.setCell ⟨b, 1, none⟩ v1) = w1 at h1 k1 ⊢
  have h2 : (w1.setCell ⟨b, 2, none⟩ v2).heap[b]? = some (.cells #[v0, v1, v2, a3, a4, a5, a6] t (0, 0)) := blk_put h1 2 v2 rfl
  have k2 : Chg (fun k => k = b) w (w1.setCell ⟨b, 2, none⟩ v2) := k1.trans (chg_setc' b 2 v2)
  generalize (w1.setCell ⟨b, 2, none⟩ v2) = w2 at h2 k2 ⊢
  have h3 : (w2.setCell ⟨b, 3, none⟩ v3).heap[b]? = some (.cells #[v0, v1, v2, v3, a4, a5, a6] t (0, 0)) := blk_put h2 3 v3 rfl
  have k3 : Chg (fun k => k = b) w (w2.setCell ⟨b, 3, none⟩ v3) := k2.trans (chg_setc' b 3 v3)
  generalize (w2.setCell ⟨b, 3, none⟩ v3) = w3 at h3 k3 ⊢
  have h4 : (w3.setCell ⟨b, 4, none⟩ v4).heap[b]? = some (.cells #[v0, v1, v2, v3, v4, a5, a6] t (0, 0)) := blk_put h3 4 v4 rfl
  have k4 : Chg (fun k => k = b) w (w3.setCell ⟨b, 4, none⟩ v4) := k3.trans (chg_setc' b 4 v4)
  generalize (w3.setCell ⟨b, 4, none⟩ v4) = w4 at h4 k4 ⊢
  have h5 : (w4.setCell ⟨b, 5, none⟩ v5).heap[b]? = some (.cells #[v0, v1, v2, v3, v4, v5, a6] t (0, 0)) := blk_put h4 5 v5 rfl
  have k5 : Chg (fun k => k = b) w (w4.setCell ⟨b, 5, none⟩ v5) := k4.trans (chg_setc' b 5 v5)
  generalize (w4.setCell ⟨b, 5, none⟩ v5) = w5 at h5 k5 ⊢
  have h6 : (w5.setCell ⟨b, 6, none⟩ v6).heap[b]? = some (.cells #[v0, v1, v2, v3, v4, v5, v6] t (0, 0)) := blk_put h5 6 v6 rfl
  have k6 : Chg (fun k => k = b) w (w5.setCell ⟨b, 6, none⟩ v6) := k5.trans (chg_setc' b 6 v6)
  generalize (w5.setCell ⟨b, 6, none⟩ v6) = w6 at h6 k6 ⊢
  exact ⟨_, rfl, h6, k6⟩
theorem set8 {w : World} {b : Nat} {t : TypeId} {a0 a1 a2 a3 a4 a5 a6 a7 : Value} (h : w.heap[b]? = some (.cells #[a0, a1, a2, a3, a4, a5, a6, a7] t (0, 0))) (v0 v1 v2 v3 v4 v5 v6 v7 : Value) : ∃ W, W = ((((((((w.setCell ⟨b, 0, none⟩ v0).setCell ⟨b, 1, none⟩ v1).setCell ⟨b, 2, none⟩ v2).setCell ⟨b, 3, none⟩ v3).setCell ⟨b, 4, none⟩ v4).setCell ⟨b, 5, none⟩ v5).setCell ⟨b, 6, none⟩ v6).setCell ⟨b, 7, none⟩ v7) ∧ W.heap[b]? = some (.cells #[v0, v1, v2, v3, v4, v5, v6, v7] t (0, 0)) ∧ Chg (fun k => k = b) w W := by
  have h0 : (w.setCell ⟨b, 0, none⟩ v0).heap[b]? = some (.cells #[v0, a1, a2, a3, a4, a5, a6, a7] t (0, 0)) := blk_put h 0 v0 rfl
  have k0 : Chg (fun k => k = b) w (w.setCell ⟨b, 0, none⟩ v0) := chg_setc' b 0 v0
  generalize (w.setCell ⟨b, 0, none⟩ v0) = w0 at h0 k0 ⊢
  have h1 : (w0.setCell ⟨b, 1, none⟩ v1).heap[b]? = some (.cells #[v0, v1, a2, a3, a4, a5, a6, a7] t (0, 0)) := blk_put h0 1 v1 rfl
  have k1 : Chg (fun k => k = b) w (w0.setCell ⟨b, 1, none⟩ v1) := k0.trans (chg_setc' b 1 v1)
  generalize (w0.setCell ⟨b, 1, none⟩ v1) = w1 at h1 k1 ⊢
  have h2 : (w1.setCell ⟨b, 2, none⟩ v2).heap[b]? = some (.cells #[v0, v1, v2, a3, a4, a5, a6, a7] t (0, 0)) := blk_put h1 2 v2 rfl
  have k2 : Chg (fun k => k = b) w (w1.setCell ⟨b, 2, none⟩ v2) := k1.trans (chg_setc' b 2 v2)
  generalize (w1.setCell ⟨b, 2, none⟩ v2) = w2 at h2 k2 ⊢
  have h3 : (w2.setCell ⟨b, 3, none⟩ v3).heap[b]? = some (.cells #[v0, v1, v2, v3, a4, a5, a6, a7] t (0, 0)) := blk_put h2 3 v3 rfl
  have k3 : Chg (fun k => k = b) w (w2.setCell ⟨b, 3, none⟩ v3) := k2.trans (chg_setc' b 3 v3)
  generalize (w2.setCell ⟨b, 3, none⟩ v3) = w3 at h3 k3 ⊢
  have h4 : (w3.setCell ⟨b, 4, none⟩ v4).heap[b]? = some (.cells #[v0, v1, v2, v3, v4, a5, a6, a7] t (0, 0)) := blk_put h3 4 v4 rfl
  have k4 : Chg (fun k => k = b) w (w3.setCell ⟨b, 4, none⟩ v4) := k3.trans (chg_setc' b 4 v4)
  generalize (w3.setCell ⟨b, 4, none⟩ v4) = w4 at h4 k4 ⊢
  have h5 : (w4.setCell ⟨b, 5, none⟩ v5).heap[b]? = some (.cells #[v0, v1, v2, v3, v4, v5, a6, a7] t (0, 0)) := blk_put h4 5 v5 rfl
  have k5 : Chg (fun k => k = b) w (w4.setCell ⟨b, 5, none⟩ v5) := k4.trans (chg_setc' b 5 v5)
  generalize (w4.setCell ⟨b, 5, none⟩ v5) = w5 at h5 k5 ⊢
  have h6 : (w5.setCell ⟨b, 6, none⟩ v6).heap[b]? = some (.cells #[v0, v1, v2, v3, v4, v5, v6, a7] t (0, 0)) := blk_put h5 6 v6 rfl
  have k6 : Chg (fun k => k = b) w (w5.setCell ⟨b, 6, none⟩ v6) := k5.trans (chg_setc' b 6 v6)
  generalize (w5.setCell ⟨b, 6, none⟩ v6) = w6 at h6 k6 ⊢
  have h7 : (w6.setCell ⟨b, 7, none⟩ v7).heap[b]? = some (.cells #[v0, v1, v2, v3, v4, v5, v6, v7] t (0, 0)) := blk_put h6 7 v7 rfl
  have k7 : Chg (fun k => k = b) w (w6.setCell ⟨b, 7, none⟩ v7) := k6.trans (chg_setc' b 7 v7)
  generalize (w6.setCell ⟨b, 7, none⟩ v7) = w7 at h7 k7 ⊢
  exact ⟨_, rfl, h7, k7⟩
theorem fourcell {w : World} {bx : Nat} {t : TypeId} {a0 a1 a2 a3 : Value} (h : w.heap[bx]? = some (.cells #[a0, a1, a2, a3] t (0, 0))) : w.cell? ⟨bx, 0, none⟩ = some a0 ∧ w.cell? ⟨bx, 1, none⟩ = some a1 ∧ w.cell? ⟨bx, 2, none⟩ = some a2 ∧ w.cell? ⟨bx, 3, none⟩ = some a3 :=
  ⟨(blk_cell h 0).trans rfl, (blk_cell h 1).trans rfl, (blk_cell h 2).trans rfl, (blk_cell h 3).trans rfl⟩
theorem sixcell {w : World} {bx : Nat} {t : TypeId} {a0 a1 a2 a3 a4 a5 : Value} (h : w.heap[bx]? = some (.cells #[a0, a1, a2, a3, a4, a5] t (0, 0))) : w.cell? ⟨bx, 0, none⟩ = some a0 ∧ w.cell? ⟨bx, 1, none⟩ = some a1 ∧ w.cell? ⟨bx, 2, none⟩ = some a2 ∧ w.cell? ⟨bx, 3, none⟩ = some a3 ∧ w.cell? ⟨bx, 4, none⟩ = some a4 ∧ w.cell? ⟨bx, 5, none⟩ = some a5 :=
  ⟨(blk_cell h 0).trans rfl, (blk_cell h 1).trans rfl, (blk_cell h 2).trans rfl, (blk_cell h 3).trans rfl, (blk_cell h 4).trans rfl, (blk_cell h 5).trans rfl⟩
theorem eightcell {w : World} {bx : Nat} {t : TypeId} {a0 a1 a2 a3 a4 a5 a6 a7 : Value} (h : w.heap[bx]? = some (.cells #[a0, a1, a2, a3, a4, a5, a6, a7] t (0, 0))) : w.cell? ⟨bx, 0, none⟩ = some a0 ∧ w.cell? ⟨bx, 1, none⟩ = some a1 ∧ w.cell? ⟨bx, 2, none⟩ = some a2 ∧ w.cell? ⟨bx, 3, none⟩ = some a3 ∧ w.cell? ⟨bx, 4, none⟩ = some a4 ∧ w.cell? ⟨bx, 5, none⟩ = some a5 ∧ w.cell? ⟨bx, 6, none⟩ = some a6 ∧ w.cell? ⟨bx, 7, none⟩ = some a7 :=
  ⟨(blk_cell h 0).trans rfl, (blk_cell h 1).trans rfl, (blk_cell h 2).trans rfl, (blk_cell h 3).trans rfl, (blk_cell h 4).trans rfl, (blk_cell h 5).trans rfl, (blk_cell h 6).trans rfl, (blk_cell h 7).trans rfl⟩
theorem cut_ge (e : TypeId) (x : Nat) : 1 ≤ (Question.appendCap 1 0 e).cut x := by
  simp [Question.cut]
theorem fit278 : (281474976710656 < Builtin.nextslicecap 1 0 * Tryz.t278.bytes) = False := eq_false (by decide)
theorem blk_sf2 {w : World} {i b : Nat} {o : Obj} (h : w.heap[i]? = some o) (j : Nat) (u : Value) (hne : i ≠ b) : (w.setCell ⟨b, j, none⟩ u).heap[i]? = some o := (Below.heap_setCell w ⟨b, j, none⟩ u i hne).trans h
def PushP (w : World) (q : Nat) (f n : ByteArray) (e : Ending) (w' : World) : Prop := ∃ b c, e = .returned (.tuple #[msg0, .bool false]) ∧ 1 ≤ c ∧ w.heap.size ≤ b ∧ Row1 w' b 278 (msgC f n) ∧ Que w' q (.slice (some ⟨b, 0, none⟩) 1 c) ∧ Chg (fun k => k = q) w w'
set_option maxHeartbeats 1000000 in
theorem push_calls {w : World} {q : Nat} {f n : ByteArray} (hq : Que w q (.slice none 0 0)) : Calls Tryz.prog 174 #[.pointer (some ⟨q, 0, none⟩), msg f n] w (PushP w q f n) := by
  have HW := Lib.hid (show Below w.heap.size w ((w.alloc (Obj.cells #[.string f, .int .i64 0, .int .u8 0, .bool false, .slice none 0 0, .string n, .string ⟨#[]⟩] 278)).alloc (Obj.cells #[.string ⟨#[]⟩, .int .i64 0, .int .u8 0, .bool false, .slice none 0 0, .string ⟨#[]⟩, .string ⟨#[]⟩] 278)) by (with_reducible (repeat (first | exact Below.refl _ _ | assumption | apply Below.drew | apply bel_alloc | (refine Below.into ?_ (by assumption)) | (refine bel_set ?_ (by first | exact Nat.le_refl _ | assumption | omega | (simp only [World.size_alloc]; omega)))))))
  have HM := Lib.hid (show ((w.alloc (Obj.cells #[.string f, .int .i64 0, .int .u8 0, .bool false, .slice none 0 0, .string n, .string ⟨#[]⟩] 278)).alloc (Obj.cells #[.string ⟨#[]⟩, .int .i64 0, .int .u8 0, .bool false, .slice none 0 0, .string ⟨#[]⟩, .string ⟨#[]⟩] 278)).heap[w.heap.size]? = some (Obj.cells #[.string f, .int .i64 0, .int .u8 0, .bool false, .slice none 0 0, .string n, .string ⟨#[]⟩] 278) from blk_alloc (blk_top rfl) _)
  have HR := Lib.hid (show ((w.alloc (Obj.cells #[.string f, .int .i64 0, .int .u8 0, .bool false, .slice none 0 0, .string n, .string ⟨#[]⟩] 278)).alloc (Obj.cells #[.string ⟨#[]⟩, .int .i64 0, .int .u8 0, .bool false, .slice none 0 0, .string ⟨#[]⟩, .string ⟨#[]⟩] 278)).heap[w.heap.size + 1]? = some (Obj.cells #[.string ⟨#[]⟩, .int .i64 0, .int .u8 0, .bool false, .slice none 0 0, .string ⟨#[]⟩, .string ⟨#[]⟩] 278) from blk_top (by simp [World.size_alloc]))
  have HQ := Lib.hid (show Que ((w.alloc (Obj.cells #[.string f, .int .i64 0, .int .u8 0, .bool false, .slice none 0 0, .string n, .string ⟨#[]⟩] 278)).alloc (Obj.cells #[.string ⟨#[]⟩, .int .i64 0, .int .u8 0, .bool false, .slice none 0 0, .string ⟨#[]⟩, .string ⟨#[]⟩] 278)) q (.slice none 0 0) from blk_alloc (blk_alloc hq _) _)
  unfold msg
  have hf := fit278
  have HQN := Lib.hid (show q < w.heap.size from blk_lt hq)
  clear hq
  go_enter Tryz.func174, Tryz.ntmps174
  go_upto_region 1 with (fail)
  generalize ((w.alloc (Obj.cells #[.string f, .int .i64 0, .int .u8 0, .bool false, .slice none 0 0, .string n, .string ⟨#[]⟩] 278)).alloc (Obj.cells #[.string ⟨#[]⟩, .int .i64 0, .int .u8 0, .bool false, .slice none 0 0, .string ⟨#[]⟩, .string ⟨#[]⟩] 278)) = W at HW HM HR HQ ⊢
  obtain ⟨c0, c1⟩ := twocell HQ.out
  have f0 := blk_frozen HQ.out 0
  have HQ' := blk_alloc HQ.out (Obj.cells #[.string f, .int .i64 0, .int .u8 0, .bool false, .slice none 0 0, .string n, .string ⟨#[]⟩] 278)
  obtain ⟨y0, y1⟩ := twocell HQ'
  have hms := sevencell HM.out
  have h9 := HW.out.size
  have h8 := HQN.out
  have hne : q ≠ W.heap.size := by omega
  have hne2 : q ≠ w.heap.size + 1 := by omega
  have z0 := fun X => (twocell (blk_alloc HQ' X)).1
  have zf := fun X => blk_frozen (blk_alloc HQ' X) 0
  go_region
  go_upto_region 2 with (fail)
  go_region
  have HCG := Lib.hid (cut_ge 278 (W.tape (W.drawn + 1 + 1) (Question.appendCap 1 0 278)))
  generalize (Question.appendCap 1 0 278).cut (W.tape (W.drawn + 1 + 1) (Question.appendCap 1 0 278)) = c at HCG ⊢
  have HQ5 := Lib.hid (show Que (((((W.alloc (Obj.cells #[.string f, .int .i64 0, .int .u8 0, .bool false, .slice none 0 0, .string n, .string ⟨#[]⟩] 278)).alloc (Obj.cells (#[Value.string f, Value.int IntKind.i64 0, Value.int IntKind.u8 0, Value.bool false, Value.slice none 0 0, Value.string n, Value.string { data := #[] }] ++ Builtin.zeroCells #[Value.string { data := #[] }, Value.int IntKind.i64 0, Value.int IntKind.u8 0, Value.bool false, Value.slice none 0 0, Value.string { data := #[] }, Value.string { data := #[] }] (c - 1)) 278)).setCell { block := q, off := 0 } (Value.slice (some { block := W.heap.size + 1, off := 0 }) 1 c)).drew.drew.drew)) q (Value.slice (some { block := W.heap.size + 1, off := 0 }) 1 c) from blk_put (blk_alloc (blk_alloc HQ.out (Obj.cells #[.string f, .int .i64 0, .int .u8 0, .bool false, .slice none 0 0, .string n, .string ⟨#[]⟩] 278)) (Obj.cells (#[Value.string f, Value.int IntKind.i64 0, Value.int IntKind.u8 0, Value.bool false, Value.slice none 0 0, Value.string n, Value.string { data := #[] }] ++ Builtin.zeroCells #[Value.string { data := #[] }, Value.int IntKind.i64 0, Value.int IntKind.u8 0, Value.bool false, Value.slice none 0 0, Value.string { data := #[] }, Value.string { data := #[] }] (c - 1)) 278)) 0 (Value.slice (some { block := W.heap.size + 1, off := 0 }) 1 c) rfl)
  have HR5 := Lib.hid (show (((((W.alloc (Obj.cells #[.string f, .int .i64 0, .int .u8 0, .bool false, .slice none 0 0, .string n, .string ⟨#[]⟩] 278)).alloc (Obj.cells (#[Value.string f, Value.int IntKind.i64 0, Value.int IntKind.u8 0, Value.bool false, Value.slice none 0 0, Value.string n, Value.string { data := #[] }] ++ Builtin.zeroCells #[Value.string { data := #[] }, Value.int IntKind.i64 0, Value.int IntKind.u8 0, Value.bool false, Value.slice none 0 0, Value.string { data := #[] }, Value.string { data := #[] }] (c - 1)) 278)).setCell { block := q, off := 0 } (Value.slice (some { block := W.heap.size + 1, off := 0 }) 1 c)).drew.drew.drew)).heap[w.heap.size + 1]? = some (Obj.cells #[.string ⟨#[]⟩, .int .i64 0, .int .u8 0, .bool false, .slice none 0 0, .string ⟨#[]⟩, .string ⟨#[]⟩] 278) from blk_sf2 (blk_alloc (blk_alloc HR.out (Obj.cells #[.string f, .int .i64 0, .int .u8 0, .bool false, .slice none 0 0, .string n, .string ⟨#[]⟩] 278)) (Obj.cells (#[Value.string f, Value.int IntKind.i64 0, Value.int IntKind.u8 0, Value.bool false, Value.slice none 0 0, Value.string n, Value.string { data := #[] }] ++ Builtin.zeroCells #[Value.string { data := #[] }, Value.int IntKind.i64 0, Value.int IntKind.u8 0, Value.bool false, Value.slice none 0 0, Value.string { data := #[] }, Value.string { data := #[] }] (c - 1)) 278)) 0 (Value.slice (some { block := W.heap.size + 1, off := 0 }) 1 c) hne2.symm)
  have HX5 := Lib.hid (show Row1 (((((W.alloc (Obj.cells #[.string f, .int .i64 0, .int .u8 0, .bool false, .slice none 0 0, .string n, .string ⟨#[]⟩] 278)).alloc (Obj.cells (#[Value.string f, Value.int IntKind.i64 0, Value.int IntKind.u8 0, Value.bool false, Value.slice none 0 0, Value.string n, Value.string { data := #[] }] ++ Builtin.zeroCells #[Value.string { data := #[] }, Value.int IntKind.i64 0, Value.int IntKind.u8 0, Value.bool false, Value.slice none 0 0, Value.string { data := #[] }, Value.string { data := #[] }] (c - 1)) 278)).setCell { block := q, off := 0 } (Value.slice (some { block := W.heap.size + 1, off := 0 }) 1 c)).drew.drew.drew)) (W.heap.size + 1) 278 (msgC f n) from ⟨_, blk_sf2 (blk_top (w := W.alloc (Obj.cells #[.string f, .int .i64 0, .int .u8 0, .bool false, .slice none 0 0, .string n, .string ⟨#[]⟩] 278)) (o := (Obj.cells (#[Value.string f, Value.int IntKind.i64 0, Value.int IntKind.u8 0, Value.bool false, Value.slice none 0 0, Value.string n, Value.string { data := #[] }] ++ Builtin.zeroCells #[Value.string { data := #[] }, Value.int IntKind.i64 0, Value.int IntKind.u8 0, Value.bool false, Value.slice none 0 0, Value.string { data := #[] }, Value.string { data := #[] }] (c - 1)) 278)) (by simp [World.size_alloc])) 0 (Value.slice (some { block := W.heap.size + 1, off := 0 }) 1 c) (show W.heap.size + 1 ≠ q by omega)⟩)
  have HC5 := Lib.hid (show Chg (fun k => k = q) w (((((W.alloc (Obj.cells #[.string f, .int .i64 0, .int .u8 0, .bool false, .slice none 0 0, .string n, .string ⟨#[]⟩] 278)).alloc (Obj.cells (#[Value.string f, Value.int IntKind.i64 0, Value.int IntKind.u8 0, Value.bool false, Value.slice none 0 0, Value.string n, Value.string { data := #[] }] ++ Builtin.zeroCells #[Value.string { data := #[] }, Value.int IntKind.i64 0, Value.int IntKind.u8 0, Value.bool false, Value.slice none 0 0, Value.string { data := #[] }, Value.string { data := #[] }] (c - 1)) 278)).setCell { block := q, off := 0 } (Value.slice (some { block := W.heap.size + 1, off := 0 }) 1 c)).drew.drew.drew)) from ((((Chg.of_below HW.out).alloc (Obj.cells #[.string f, .int .i64 0, .int .u8 0, .bool false, .slice none 0 0, .string n, .string ⟨#[]⟩] 278)).alloc (Obj.cells (#[Value.string f, Value.int IntKind.i64 0, Value.int IntKind.u8 0, Value.bool false, Value.slice none 0 0, Value.string n, Value.string { data := #[] }] ++ Builtin.zeroCells #[Value.string { data := #[] }, Value.int IntKind.i64 0, Value.int IntKind.u8 0, Value.bool false, Value.slice none 0 0, Value.string { data := #[] }, Value.string { data := #[] }] (c - 1)) 278)).trans (chg_setc' q 0 (Value.slice (some { block := W.heap.size + 1, off := 0 }) 1 c))).drew.drew.drew)
  have HRR := HR
  clear c0 c1 f0 HQ' y0 y1 z0 zf hms HM HR HQ h9
  have HG := Lib.hid (show w.heap.size ≤ W.heap.size + 1 from Nat.le_succ_of_le HW.out.size)
  have HSB := Lib.hid (show w.heap.size + 1 ≠ W.heap.size + 1 by have := blk_lt HRR.out; omega)
  have HNE := Lib.hid hne2
  generalize (((((W.alloc (Obj.cells #[.string f, .int .i64 0, .int .u8 0, .bool false, .slice none 0 0, .string n, .string ⟨#[]⟩] 278)).alloc (Obj.cells (#[Value.string f, Value.int IntKind.i64 0, Value.int IntKind.u8 0, Value.bool false, Value.slice none 0 0, Value.string n, Value.string { data := #[] }] ++ Builtin.zeroCells #[Value.string { data := #[] }, Value.int IntKind.i64 0, Value.int IntKind.u8 0, Value.bool false, Value.slice none 0 0, Value.string { data := #[] }, Value.string { data := #[] }] (c - 1)) 278)).setCell { block := q, off := 0 } (Value.slice (some { block := W.heap.size + 1, off := 0 }) 1 c)).drew.drew.drew)) = Wf at HQ5 HX5 HR5 HC5 ⊢
  generalize W.heap.size + 1 = b at HQ5 HX5 HG HSB ⊢
  obtain ⟨r0, r1, r2, r3, r4, r5, r6⟩ := sevencell HR5.out
  have f0 := blk_frozen HR5.out 0; have f1 := blk_frozen HR5.out 1; have f2 := blk_frozen HR5.out 2; have f3 := blk_frozen HR5.out 3; have f4 := blk_frozen HR5.out 4; have f5 := blk_frozen HR5.out 5; have f6 := blk_frozen HR5.out 6
  have hsb := HSB.out
  go_wp2
  obtain ⟨WF, hWF, hF, hC⟩ := set7 HR5.out (.string ⟨#[]⟩) (.int .i64 0) (.int .u8 0) (.bool false) (.slice none 0 0) (.string ⟨#[]⟩) (.string ⟨#[]⟩)
  rw [← hWF]
  exact bodyPost_ret (v := .tuple #[msg0, .bool false]) (by simp [results, Tryz.results174, go_sem, sevencell hF, msg0]) rfl ⟨b, c, rfl, HCG.out, HG.out, HX5.out.to hC (fun h => hsb h.symm), hC.blk HQ5.out HNE.out, HC5.out.then_ hC (fun k hk => .inr (by omega))⟩
theorem msgcells {w : World} {b : Nat} {f n : ByteArray} (h : Row1 w b 278 (msgC f n)) : w.cell? ⟨b, 0, none⟩ = some (.string f) ∧ w.cell? ⟨b, 1, none⟩ = some (.int .i64 0) ∧ w.cell? ⟨b, 2, none⟩ = some (.int .u8 0) ∧ w.cell? ⟨b, 3, none⟩ = some (.bool false) ∧ w.cell? ⟨b, 4, none⟩ = some (.slice none 0 0) ∧ w.cell? ⟨b, 5, none⟩ = some (.string n) ∧ w.cell? ⟨b, 6, none⟩ = some (.string ⟨#[]⟩) :=
  ⟨h.cell 0 _ rfl, h.cell 1 _ rfl, h.cell 2 _ rfl, h.cell 3 _ rfl, h.cell 4 _ rfl, h.cell 5 _ rfl, h.cell 6 _ rfl⟩
theorem first0_calls {w : World} {q : Nat} {A : Option Addr} {c : Nat} (hq : Que w q (.slice A 0 c)) : Calls Tryz.prog 169 #[.pointer (some ⟨q, 0, none⟩)] w (RB (.tuple #[msg0, .bool false]) w) := by
  unfold Que at hq
  have hq1 := blk_alloc hq (Obj.cells #[.string ⟨#[]⟩, .int .i64 0, .int .u8 0, .bool false, .slice none 0 0, .string ⟨#[]⟩, .string ⟨#[]⟩] 278)
  obtain ⟨c0, c1⟩ := twocell hq1
  have h1 := blk_lt hq
  have HR := Lib.hid (show (w.alloc (Obj.cells #[.string ⟨#[]⟩, .int .i64 0, .int .u8 0, .bool false, .slice none 0 0, .string ⟨#[]⟩, .string ⟨#[]⟩] 278)).heap[w.heap.size]? = some (Obj.cells #[.string ⟨#[]⟩, .int .i64 0, .int .u8 0, .bool false, .slice none 0 0, .string ⟨#[]⟩, .string ⟨#[]⟩] 278) from blk_top rfl)
  have HB := Lib.hid (bel1 w (Obj.cells #[.string ⟨#[]⟩, .int .i64 0, .int .u8 0, .bool false, .slice none 0 0, .string ⟨#[]⟩, .string ⟨#[]⟩] 278))
  clear hq hq1
  go_enter Tryz.func169, Tryz.ntmps169
  go_upto_region 1 with (fail)
  generalize (w.alloc (Obj.cells #[.string ⟨#[]⟩, .int .i64 0, .int .u8 0, .bool false, .slice none 0 0, .string ⟨#[]⟩, .string ⟨#[]⟩] 278)) = W at c0 c1 HR HB ⊢
  obtain ⟨r0, r1, r2, r3, r4, r5, r6⟩ := sevencell HR.out
  have f0 := blk_frozen HR.out 0; have f1 := blk_frozen HR.out 1; have f2 := blk_frozen HR.out 2; have f3 := blk_frozen HR.out 3; have f4 := blk_frozen HR.out 4; have f5 := blk_frozen HR.out 5; have f6 := blk_frozen HR.out 6
  go_wp2
  obtain ⟨WF, hWF, hF, hC⟩ := set7 HR.out (.string ⟨#[]⟩) (.int .i64 0) (.int .u8 0) (.bool false) (.slice none 0 0) (.string ⟨#[]⟩) (.string ⟨#[]⟩)
  rw [← hWF]
  exact bodyPost_ret (v := .tuple #[msg0, .bool false]) (by simp [results, Tryz.results169, go_sem, sevencell hF, msg0]) rfl ⟨rfl, HB.out.trans (hC.to_below HB.out.size (fun k hk => by omega))⟩
theorem first1_calls {w : World} {q b c : Nat} {f n : ByteArray} (hq : Que w q (.slice (some ⟨b, 0, none⟩) 1 c)) (hr : Row1 w b 278 (msgC f n)) : Calls Tryz.prog 169 #[.pointer (some ⟨q, 0, none⟩)] w (RB (.tuple #[msg f n, .bool true]) w) := by
  unfold Que at hq
  have hq1 := blk_alloc hq (Obj.cells #[.string ⟨#[]⟩, .int .i64 0, .int .u8 0, .bool false, .slice none 0 0, .string ⟨#[]⟩, .string ⟨#[]⟩] 278)
  obtain ⟨c0, c1⟩ := twocell hq1
  have h1 := blk_lt hq
  have hr' := hr.below (bel1 w (Obj.cells #[.string ⟨#[]⟩, .int .i64 0, .int .u8 0, .bool false, .slice none 0 0, .string ⟨#[]⟩, .string ⟨#[]⟩] 278))
  obtain ⟨d0, d1, d2, d3, d4, d5, d6⟩ := msgcells hr'
  have HR := Lib.hid (show (w.alloc (Obj.cells #[.string ⟨#[]⟩, .int .i64 0, .int .u8 0, .bool false, .slice none 0 0, .string ⟨#[]⟩, .string ⟨#[]⟩] 278)).heap[w.heap.size]? = some (Obj.cells #[.string ⟨#[]⟩, .int .i64 0, .int .u8 0, .bool false, .slice none 0 0, .string ⟨#[]⟩, .string ⟨#[]⟩] 278) from blk_top rfl)
  have HB := Lib.hid (bel1 w (Obj.cells #[.string ⟨#[]⟩, .int .i64 0, .int .u8 0, .bool false, .slice none 0 0, .string ⟨#[]⟩, .string ⟨#[]⟩] 278))
  clear hq hq1 hr hr'
  go_enter Tryz.func169, Tryz.ntmps169
  go_upto_region 1 with (fail)
  generalize (w.alloc (Obj.cells #[.string ⟨#[]⟩, .int .i64 0, .int .u8 0, .bool false, .slice none 0 0, .string ⟨#[]⟩, .string ⟨#[]⟩] 278)) = W at c0 c1 HR HB d0 d1 d2 d3 d4 d5 d6 ⊢
  obtain ⟨r0, r1, r2, r3, r4, r5, r6⟩ := sevencell HR.out
  have f0 := blk_frozen HR.out 0; have f1 := blk_frozen HR.out 1; have f2 := blk_frozen HR.out 2; have f3 := blk_frozen HR.out 3; have f4 := blk_frozen HR.out 4; have f5 := blk_frozen HR.out 5; have f6 := blk_frozen HR.out 6
  go_wp2
  obtain ⟨WF, hWF, hF, hC⟩ := set7 HR.out (.string f) (.int .i64 0) (.int .u8 0) (.bool false) (.slice none 0 0) (.string n) (.string ⟨#[]⟩)
  rw [← hWF]
  exact bodyPost_ret (v := .tuple #[msg f n, .bool true]) (by simp [results, Tryz.results169, go_sem, sevencell hF, msg]) rfl ⟨rfl, HB.out.trans (hC.to_below HB.out.size (fun k hk => by omega))⟩
theorem appd (W : World) (O : Obj) (cs Z : Array Value) (e : TypeId) : Row1 (((W.alloc O).alloc (.cells (cs ++ Z) e)).drew) (W.heap.size + 1) e cs ∧ Below W.heap.size W (((W.alloc O).alloc (.cells (cs ++ Z) e)).drew) :=
  ⟨⟨Z, blk_top (w := W.alloc O) (o := .cells (cs ++ Z) e) (by simp [World.size_alloc])⟩, ((Below.refl W.heap.size W).alloc (Nat.le_refl _) O |>.alloc (by simp [World.size_alloc]) _).drew⟩
theorem put_que {w : World} {q : Nat} {l v : Value} (h : Que w q l) : Que (w.setCell ⟨q, 0, none⟩ v) q v := blk_put h 0 v rfl
set_option maxHeartbeats 1000000 in
theorem expire0_calls {w : World} {q : Nat} {A : Option Addr} {c : Nat} (hq : Que w q (.slice A 0 c)) (now : Int) : Calls Tryz.prog 119 #[.pointer (some ⟨q, 0, none⟩), .int .i64 now] w (Is (.slice none 0 0) (w.setCell ⟨q, 0, none⟩ (.slice none 0 0))) := by
  unfold Que at hq
  obtain ⟨c0, c1⟩ := twocell hq
  have f0 := blk_frozen hq 0; have f1 := blk_frozen hq 1
  clear hq
  go_enter Tryz.func119, Tryz.ntmps119
  go_upto_region 3 with (fail)
  refine wp_loop_rounds 1 ?_
  rw [rounds_succ]
  go_wp2
  go_ret
  exact ⟨rfl, rfl⟩
def Exp1P (w : World) (q : Nat) (f n : ByteArray) (e : Ending) (w' : World) : Prop := ∃ b c, e = .returned (.slice none 0 0) ∧ 1 ≤ c ∧ w.heap.size ≤ b ∧ Row1 w' b 278 (msgC f n) ∧ Que w' q (.slice (some ⟨b, 0, none⟩) 1 c) ∧ Chg (fun k => k = q) w w'
set_option maxHeartbeats 1000000 in
theorem expire1_calls {w : World} {q b c : Nat} {f n : ByteArray} (hq : Que w q (.slice (some ⟨b, 0, none⟩) 1 c)) (hr : Row1 w b 278 (msgC f n)) (now : Int) : Calls Tryz.prog 119 #[.pointer (some ⟨q, 0, none⟩), .int .i64 now] w (Exp1P w q f n) := by
  have HG := fun W => Lib.hid (gone_calls (w := W) f n now)
  have HM := Lib.hid (show (w.alloc (Obj.cells #[.string f, .int .i64 0, .int .u8 0, .bool false, .slice none 0 0, .string n, .string ⟨#[]⟩] 278)).heap[w.heap.size]? = some (Obj.cells #[.string f, .int .i64 0, .int .u8 0, .bool false, .slice none 0 0, .string n, .string ⟨#[]⟩] 278) from blk_top rfl)
  have HQ := Lib.hid (show Que (w.alloc (Obj.cells #[.string f, .int .i64 0, .int .u8 0, .bool false, .slice none 0 0, .string n, .string ⟨#[]⟩] 278)) q (.slice (some ⟨b, 0, none⟩) 1 c) from blk_alloc hq _)
  have HB := Lib.hid (bel1 w (Obj.cells #[.string f, .int .i64 0, .int .u8 0, .bool false, .slice none 0 0, .string n, .string ⟨#[]⟩] 278))
  obtain ⟨d0, d1, d2, d3, d4, d5, d6⟩ := msgcells hr
  have HNE := Lib.hid (show q < w.heap.size from blk_lt hq)
  have hf := fit278
  unfold msg at HG
  unfold Que at hq
  obtain ⟨c0, c1⟩ := twocell hq
  clear hq hr
  go_enter Tryz.func119, Tryz.ntmps119
  go_upto_region 3 with (fail)
  refine wp_loop_rounds 2 ?_
  rw [rounds_succ]
  go_upto_region 5 with (fail)
  generalize (w.alloc (Obj.cells #[.string f, .int .i64 0, .int .u8 0, .bool false, .slice none 0 0, .string n, .string ⟨#[]⟩] 278)) = W at HM HQ HB ⊢
  clear c0 c1 d0 d1 d2 d3 d4 d5 d6
  obtain ⟨m0, m1, m2, m3, m4, m5, m6⟩ := sevencell HM.out
  go_upto_region 7 with (first
    | (go_at_call 164; (with_reducible refine ((HG _).out).mono ?_); rintro e w1 ⟨rfl, hb⟩; have HM1 := Lib.hid (blk_below HM.out hb); have HQ1 := Lib.hid (show Que w1 q (.slice (some ⟨b, 0, none⟩) 1 c) from blk_below HQ.out hb); have HB1 := Lib.hid (Below.into HB.out hb); clear hb))
  clear m0 m1 m2 m3 m4 m5 m6 HM HQ HB
  obtain ⟨m0, m1, m2, m3, m4, m5, m6⟩ := sevencell HM1.out
  go_upto_region 8 with (fail)
  have HCG := Lib.hid (cut_ge 278 (w1.tape w1.drawn (Question.appendCap 1 0 278)))
  generalize (Question.appendCap 1 0 278).cut (w1.tape w1.drawn (Question.appendCap 1 0 278)) = cc at HCG ⊢
  have hap := appd w1 (Obj.cells #[.string f, .int .i64 0, .int .u8 0, .bool false, .slice none 0 0, .string n, .string ⟨#[]⟩] 278) (msgC f n) (Builtin.zeroCells #[Value.string { data := #[] }, Value.int IntKind.i64 0, Value.int IntKind.u8 0, Value.bool false, Value.slice none 0 0, Value.string { data := #[] }, Value.string { data := #[] }] (cc - 1)) 278
  have HR2 := Lib.hid (show Row1 (((w1.alloc (Obj.cells #[.string f, .int .i64 0, .int .u8 0, .bool false, .slice none 0 0, .string n, .string ⟨#[]⟩] 278)).alloc (Obj.cells (#[Value.string f, Value.int IntKind.i64 0, Value.int IntKind.u8 0, Value.bool false, Value.slice none 0 0, Value.string n, Value.string { data := #[] }] ++ (Builtin.zeroCells #[Value.string { data := #[] }, Value.int IntKind.i64 0, Value.int IntKind.u8 0, Value.bool false, Value.slice none 0 0, Value.string { data := #[] }, Value.string { data := #[] }] (cc - 1))) 278)).drew) (w1.heap.size + 1) 278 (msgC f n) from hap.1)
  have HQ2 := Lib.hid (show Que (((w1.alloc (Obj.cells #[.string f, .int .i64 0, .int .u8 0, .bool false, .slice none 0 0, .string n, .string ⟨#[]⟩] 278)).alloc (Obj.cells (#[Value.string f, Value.int IntKind.i64 0, Value.int IntKind.u8 0, Value.bool false, Value.slice none 0 0, Value.string n, Value.string { data := #[] }] ++ (Builtin.zeroCells #[Value.string { data := #[] }, Value.int IntKind.i64 0, Value.int IntKind.u8 0, Value.bool false, Value.slice none 0 0, Value.string { data := #[] }, Value.string { data := #[] }] (cc - 1))) 278)).drew) q (.slice (some ⟨b, 0, none⟩) 1 c) from blk_below HQ1.out hap.2)
  have HB2 := Lib.hid (show Below w.heap.size w (((w1.alloc (Obj.cells #[.string f, .int .i64 0, .int .u8 0, .bool false, .slice none 0 0, .string n, .string ⟨#[]⟩] 278)).alloc (Obj.cells (#[Value.string f, Value.int IntKind.i64 0, Value.int IntKind.u8 0, Value.bool false, Value.slice none 0 0, Value.string n, Value.string { data := #[] }] ++ (Builtin.zeroCells #[Value.string { data := #[] }, Value.int IntKind.i64 0, Value.int IntKind.u8 0, Value.bool false, Value.slice none 0 0, Value.string { data := #[] }, Value.string { data := #[] }] (cc - 1))) 278)).drew) from Below.into HB1.out hap.2)
  have HG2 := Lib.hid (show w.heap.size ≤ w1.heap.size + 1 from Nat.le_succ_of_le HB1.out.size)
  generalize (((w1.alloc (Obj.cells #[.string f, .int .i64 0, .int .u8 0, .bool false, .slice none 0 0, .string n, .string ⟨#[]⟩] 278)).alloc (Obj.cells (#[Value.string f, Value.int IntKind.i64 0, Value.int IntKind.u8 0, Value.bool false, Value.slice none 0 0, Value.string n, Value.string { data := #[] }] ++ (Builtin.zeroCells #[Value.string { data := #[] }, Value.int IntKind.i64 0, Value.int IntKind.u8 0, Value.bool false, Value.slice none 0 0, Value.string { data := #[] }, Value.string { data := #[] }] (cc - 1))) 278)).drew) = Wf at HR2 HQ2 HB2 ⊢
  generalize w1.heap.size + 1 = b1 at HR2 HG2 ⊢
  clear m0 m1 m2 m3 m4 m5 m6 hap
  have hq2 := HQ2.out
  unfold Que at hq2
  obtain ⟨c0, c1⟩ := twocell hq2
  have f0 := blk_frozen hq2 0; have f1 := blk_frozen hq2 1
  clear hq2
  go_upto_region 8 with (fail)
  go_wp2
  rw [rounds_succ]
  go_wp2
  go_ret
  exact ⟨b1, cc, rfl, HCG.out, HG2.out, HR2.out.to (chg_setc' q 0 _) (fun h => by have := HG2.out; have := HNE.out; omega), put_que HQ2.out, (Chg.of_below HB2.out).trans (chg_setc' q 0 _)⟩
theorem eqsome {w : World} (d : Nat) (t e : TypeId) (a : Addr) (n c : Nat) (h : Tryz.prog.underlying t = some (.slice e)) : Sem.run Tryz.prog (Op.equalIn (d + 1) t (Value.slice (some a) n c) (Value.slice none 0 0)) w = .ok false w := by
  simp [Op.equalIn, run_underlying h]
theorem ssome {w : World} (t e : TypeId) (a : Addr) (n c : Nat) (h : Tryz.prog.underlying t = some (.slice e)) : Sem.run Tryz.prog (binOp BinOp.eql t (Value.slice (some a) n c) (Value.slice none 0 0)) w = .ok (.bool false) w := by
  simp only [binOp, Op.equal, Op.maxDepth, Sem.run_bind, eqsome 9999 t e a n c h, Result.andThen_ok, Sem.run_pure]
theorem clonee_calls {w : World} (a : Addr) (c : Nat) : Calls Tryz.prog 225 #[.slice (some a) 0 c] w fun e w' => ∃ A c', e = .returned (.slice A 0 c') ∧ Below w.heap.size w w' := by
  have hq := ssome (w := w) 249 278 a 0 c Tryz.underlying249
  go_enter Tryz.func225, Tryz.ntmps225
  go_wp2
  go_ret
  exact ⟨_, _, rfl, by (with_reducible (repeat (first | exact Below.refl _ _ | assumption | apply Below.drew | apply bel_alloc | (refine Below.into ?_ (by assumption)) | (refine bel_set ?_ (by first | exact Nat.le_refl _ | assumption | omega | (simp only [World.size_alloc]; omega))))))⟩
set_option maxHeartbeats 1000000 in
theorem pop1_calls {w : World} {q b c : Nat} {f n : ByteArray} (hq : Que w q (.slice (some ⟨b, 0, none⟩) 1 c)) (hr : Row1 w b 278 (msgC f n)) (hc : 1 ≤ c) : Calls Tryz.prog 171 #[.pointer (some ⟨q, 0, none⟩)] w fun e w' => ∃ A c', e = .returned (.tuple #[msg f n, .bool true]) ∧ Que w' q (.slice A 0 c') ∧ Chg (fun k => k = q) w w' := by
  have HF := Lib.hid (first1_calls (w := w.alloc (Obj.cells #[.string ⟨#[]⟩, .int .i64 0, .int .u8 0, .bool false, .slice none 0 0, .string ⟨#[]⟩, .string ⟨#[]⟩] 278)) (q := q) (b := b) (c := c) (f := f) (n := n) (blk_alloc hq _) (hr.below (bel1 _ _)))
  have HM := Lib.hid (show (w.alloc (Obj.cells #[.string ⟨#[]⟩, .int .i64 0, .int .u8 0, .bool false, .slice none 0 0, .string ⟨#[]⟩, .string ⟨#[]⟩] 278)).heap[w.heap.size]? = some (Obj.cells #[.string ⟨#[]⟩, .int .i64 0, .int .u8 0, .bool false, .slice none 0 0, .string ⟨#[]⟩, .string ⟨#[]⟩] 278) from blk_top rfl)
  have HQ := Lib.hid (show Que (w.alloc (Obj.cells #[.string ⟨#[]⟩, .int .i64 0, .int .u8 0, .bool false, .slice none 0 0, .string ⟨#[]⟩, .string ⟨#[]⟩] 278)) q (.slice (some ⟨b, 0, none⟩) 1 c) from blk_alloc hq _)
  have HB := Lib.hid (bel1 w (Obj.cells #[.string ⟨#[]⟩, .int .i64 0, .int .u8 0, .bool false, .slice none 0 0, .string ⟨#[]⟩, .string ⟨#[]⟩] 278))
  have HNE := Lib.hid (show q < w.heap.size from blk_lt hq)
  unfold msg at HF
  clear hq hr
  rcases (show c = 1 ∨ (c ≠ 1 ∧ ¬ c - 1 = 0 ∧ 1 < c) by omega) with rfl | ⟨hc1, hc2, hc3⟩
  all_goals (
    go_enter Tryz.func171, Tryz.ntmps171
    go_upto_region 1 with (fail)
    generalize (w.alloc (Obj.cells #[.string ⟨#[]⟩, .int .i64 0, .int .u8 0, .bool false, .slice none 0 0, .string ⟨#[]⟩, .string ⟨#[]⟩] 278)) = W at HF HM HQ HB ⊢
    go_upto_region 3 with (first
      | (go_at_call 169; (with_reducible refine (HF.out).mono ?_); rintro e w1 ⟨rfl, hb⟩; have HM1 := Lib.hid (blk_below HM.out hb); have HQ1 := Lib.hid (show Que w1 q (.slice (some ⟨b, 0, none⟩) 1 _) from blk_below HQ.out hb); have HB1 := Lib.hid (Below.into HB.out hb); clear hb))
    have HM2 := Lib.hid (show (w1.alloc (Obj.cells #[.string f, .int .i64 0, .int .u8 0, .bool false, .slice none 0 0, .string n, .string ⟨#[]⟩] 278)).heap[w.heap.size]? = some (Obj.cells #[.string ⟨#[]⟩, .int .i64 0, .int .u8 0, .bool false, .slice none 0 0, .string ⟨#[]⟩, .string ⟨#[]⟩] 278) from blk_alloc HM1.out _)
    have HX2 := Lib.hid (show (w1.alloc (Obj.cells #[.string f, .int .i64 0, .int .u8 0, .bool false, .slice none 0 0, .string n, .string ⟨#[]⟩] 278)).heap[w1.heap.size]? = some (Obj.cells #[.string f, .int .i64 0, .int .u8 0, .bool false, .slice none 0 0, .string n, .string ⟨#[]⟩] 278) from blk_top rfl)
    have HQ2 := Lib.hid (show Que (w1.alloc (Obj.cells #[.string f, .int .i64 0, .int .u8 0, .bool false, .slice none 0 0, .string n, .string ⟨#[]⟩] 278)) q (.slice (some ⟨b, 0, none⟩) 1 _) from blk_alloc HQ1.out _)
    have HB2 := Lib.hid (show Below w.heap.size w (w1.alloc (Obj.cells #[.string f, .int .i64 0, .int .u8 0, .bool false, .slice none 0 0, .string n, .string ⟨#[]⟩] 278)) from bel_alloc HB1.out)
    have HX1 := Lib.hid (show w.heap.size ≤ w1.heap.size ∧ w.heap.size ≠ w1.heap.size from ⟨HB1.out.size, by have := blk_lt HM1.out; omega⟩)
    generalize w1.heap.size = x1 at HX2 HX1 ⊢
    generalize (w1.alloc (Obj.cells #[.string f, .int .i64 0, .int .u8 0, .bool false, .slice none 0 0, .string n, .string ⟨#[]⟩] 278)) = W9 at HM2 HX2 HQ2 HB2 ⊢
    clear HF HM HQ HB HM1 HQ1 HB1
    have hq2 := HQ2.out
    unfold Que at hq2
    obtain ⟨c0, c1⟩ := twocell hq2
    clear hq2
    go_upto_region 4 with (first
      | (go_at_call 225; (with_reducible refine ((clonee_calls _ _)).mono ?_); rintro e w3 ⟨A, c', rfl, hb⟩; have HM3 := Lib.hid (blk_below HM2.out hb); have HX3 := Lib.hid (blk_below HX2.out hb); have HQ3 := Lib.hid (show Que w3 q (.slice (some ⟨b, 0, none⟩) 1 _) from blk_below HQ2.out hb); have HB3 := Lib.hid (Below.into HB2.out hb); clear hb; have hq3 := HQ3.out; unfold Que at hq3; obtain ⟨c0, c1⟩ := twocell hq3; have f0 := blk_frozen hq3 0; have f1 := blk_frozen hq3 1; clear hq3))
    have HC4 := Lib.hid ((Chg.of_below (S := fun k => k = q) HB3.out).trans (chg_setc' q 0 (.slice A 0 c')))
    have HM4 := Lib.hid ((chg_setc' q 0 (.slice A 0 c')).blk HM3.out (fun h => by have := HNE.out; omega))
    have HX4 := Lib.hid ((chg_setc' q 0 (.slice A 0 c')).blk HX3.out (fun h => by have := HNE.out; have := HX1.out.1; omega))
    have HQ4 := Lib.hid (put_que (v := .slice A 0 c') HQ3.out)
    generalize (w3.setCell ⟨q, 0, none⟩ (.slice A 0 c')) = W4 at HC4 HM4 HX4 HQ4 ⊢
    clear c0 c1 f0 f1 HM2 HX2 HQ2 HB2 HM3 HX3 HQ3 HB3
    obtain ⟨r0, r1, r2, r3, r4, r5, r6⟩ := sevencell HM4.out
    have f0 := blk_frozen HM4.out 0; have f1 := blk_frozen HM4.out 1; have f2 := blk_frozen HM4.out 2; have f3 := blk_frozen HM4.out 3; have f4 := blk_frozen HM4.out 4; have f5 := blk_frozen HM4.out 5; have f6 := blk_frozen HM4.out 6
    obtain ⟨x0, x1, x2, x3, x4, x5, x6⟩ := sevencell HX4.out
    go_wp2
    obtain ⟨WF, hWF, hF, hC⟩ := set7 HM4.out (.string f) (.int .i64 0) (.int .u8 0) (.bool false) (.slice none 0 0) (.string n) (.string ⟨#[]⟩)
    rw [← hWF]
    exact bodyPost_ret (v := .tuple #[msg f n, .bool true]) (by simp [results, Tryz.results171, go_sem, sevencell hF, msg]) rfl ⟨A, c', rfl, hC.blk HQ4.out (fun h => by have := HNE.out; omega), HC4.out.then_ hC (fun k hk => .inr (by omega))⟩)
end Go.Proofs.YtbfgpkogginmjaaGreatDoor
end

/- (*alias.Table).Name: an alias with a topic. -/
import Derived.Test.YtjlohmhmnghjkaaN3
namespace Go.Proofs.Ytjlohmhmnghjkaa
open Go.RowKit Go.Maps Go.Proofs.YtjlohmhmnghjkaaW.PrintWords Go.Proofs.Ytjlohmhmnghjkaa.PAliasPlays
set_option linter.unusedVariables false
set_option linter.unusedSimpArgs false

section
variable {w : World} {base g bm most n m : Nat} {F : Nat → Option ByteArray}
/-- What the call leaves: the table, and all older blocks but the map's. -/
structure TKept (w w' : World) (base bm : Nat) : Prop where
  below : Below base w w'
  size : w.heap.size ≤ w'.heap.size
  old : ∀ k, k < w.heap.size → k ≠ bm → w'.heap[k]? = w.heap[k]?
theorem not_map {w : World} {a : Addr} {v : Value} {b : Nat} {es : Array MapEntry} {cl : Nat} (h : w.cell? a = some v) (hb : w.heap[b]? = some (.map es cl)) : some a.block ≠ some b := by
  intro e
  injection e with e
  subst e
  unfold World.cell? at h
  rw [hb] at h
  cases h
theorem kept_cells {w W W3 : World} {pb xb N : Nat} {topic : ByteArray} (hgr : W.drew.grownBy W3 (some bm)) (h : NW w W base g bm most n m F pb xb N topic) :
    W3.cell? ⟨pb, 5, none⟩ = some (.string topic) ∧ W3.cell? ⟨xb, 1, none⟩ = some (.int .u32 N) := by
  obtain ⟨D, ⟨es, clock, e1, _⟩, _⟩ := h.pt.mp
  exact ⟨hgr.cell h.t5 (not_map h.t5 e1), hgr.cell h.x1 (not_map h.x1 e1)⟩
theorem tkept_of {w W W3 : World} {pb xb N : Nat} {topic : ByteArray} (hgr : W.drew.grownBy W3 (some bm)) (h : NW w W base g bm most n m F pb xb N topic) (hbase : base ≤ w.heap.size) : TKept w W3 base bm :=
  ⟨(h.below.mono hbase).drew.grown hgr (Nat.le_trans hbase h.below.size) (fun k e => by injection e with e; have := h.pt.bb; omega), Nat.le_trans h.below.size hgr.size, fun k hk hne => (hgr.block k (Nat.lt_of_lt_of_le hk h.below.size) (fun e => hne (by injection e))).trans (h.below.block k hk)⟩
def SetPost (w : World) (base g bm most n m : Nat) (F : Nat → Option ByteArray) (N : Nat) (topic : ByteArray) (e : Ending) (w' : World) : Prop :=
  ∃ b, NameW topic b ∧ e = .returned (.tuple #[.string (if b then topic else ⟨#[]⟩), .int .i64 (if b then 0 else 9)]) ∧ TKept w w' base bm ∧ PT w' base g bm most (n + 1) (if b then if (F N).isSome then m else m + 1 else m) (if b then setF F N topic else F)
set_option maxHeartbeats 4000000 in
set_option maxRecDepth 100000 in
theorem tname_set (h : PT w base g bm most n m F) (hbase : base ≤ w.heap.size) (hn : n < 1000000) {A : Option Addr} {c k : Nat} {l : List S61} (hl : Kd.C k61 w A l.length l) (hlc : l.length ≤ c) {r1 : Int} {N : Nat} {r3 r4 : ByteArray} (hget : prop_List_Get.f k l 35 = some (r1, (N : Int), r3, r4, true))
    (topic pay : ByteArray) (ht : 0 < topic.size) (hts : topic.size < 4294967281) (hN0 : N ≠ 0) (hNm : N ≤ most) (hN32 : N < 4294967296) :
    Calls Try.prog 11 #[.pointer (some ⟨g, 0, none⟩), .agg #[.bool false, .bool false, .int .u8 0, .int .u32 0, .slice A l.length c, .string topic, .string pay]] w (SetPost w base g bm most n m F N topic) := by
  have hu36 := Try.underlying36
  have hu61 := Try.underlying61
  have HP := Lib.hid h
  have HL := Lib.hid hl
  have HG := Lib.hid hget
  have HT := Lib.hid (fun W => name_calls topic W hts)
  have hem := isEmpty_of topic ht
  have hN2 : ((N : Int) == 0) = false := beq_eq_false_iff_ne.2 (by omega)
  have hgt : decide ((most : Int) < (N : Int)) = false := decide_eq_false (by omega)
  have hts2 : topic.size ≤ maxLen := by unfold maxLen; omega
  clear h hl hget ht hN0
  go_enter Try.func11, Try.ntmps11
  go_wp2_with (go_at_call 18; refine (prop_List_Get.calls k A c l 35 _ _ _ _ _ _ (Kd.C_below HL.out ((Below.refl _ _).alloc (Nat.le_refl _) _)) hlc HG.out).mono ?_; rintro e w1 ⟨rfl, hb1⟩; have HB1 := Lib.hid hb1; clear hb1)
  have HN := Lib.hid (nw_init (N := N) (topic := topic) HP.out #[.bool false, .bool false, .int .u8 0, .int .u32 0, .slice A l.length c, .string topic, .string pay] rfl (.int .i64 r1) (.string r3) (.string r4) (by have := HB1.out; rw [World.size_alloc] at this; exact this))
  generalize w1.alloc (.cells #[.int .i64 r1, .int .u32 N, .string r3, .string r4] 61) = W at HN ⊢
  have t5 := HN.out.t5
  have c1 := HN.out.c1
  have x1 := HN.out.x1
  go_quiet (fail)
  go_wp2_with (go_at_call 19; refine (HT.out _).mono ?_; rintro e w2 hp2; obtain ⟨b, rfl, hnw, hb2⟩ := hp2; have HW := Lib.hid hnw; have HN2 := Lib.hid ((HN.out.to (pw_below_drewN (Below.refl _ _) _)).to hb2); have t52 := HN2.out.t5; have x12 := HN2.out.x1; have c02 := HN2.out.c0; clear hnw hb2 t5 c1 x1)
  · obtain rfl : b = false := by
      have h : (!b) = true := by assumption
      cases b
      · rfl
      · cases h
    go_ret2
    have hpt := HN2.out.pt
    obtain ⟨D, hm, hr⟩ := hpt.mp
    exact ⟨false, HW.out, rfl, ⟨HN2.out.below.mono hbase, HN2.out.below.size, fun k hk _ => HN2.out.below.block k hk⟩, ⟨hpt.blk, hpt.bg, hpt.bb, D, hm.mono (Nat.le_succ n), hr⟩⟩
  · obtain rfl : b = true := by
      have h : (!b) = false := by assumption
      cases b
      · cases h
      · rfl
    obtain ⟨D, hown, hst⟩ := (show PT w2.drew base g bm most n m F from HN2.out.pt.move rfl rfl).store N topic
    have HST := Lib.hid hst
    have hkey := keyOf_int_mk Try.underlying22 (wf_u32 hN32)
    have hval := plainElem_string (H := Unit) (P := Try.prog) Try.underlying9 hts2
    clear hst
    go_still_tail 8, (by kernel_rfl)
    change wpList _ _ _ _ _ w2.drew
    go_wp2_with (at_mapUpdate; refine wpList_mapUpdate_own _ rfl _ _ _ 57 rfl 22 9 law22 Try.underlying57 _ bm n D rfl hown (by unfold maxLen; omega) _ _ _ rfl rfl hkey _ [] hval ?_; intro w3 hown3 hgr3; have H3 := Lib.hid (HST.out w3 hown3 hgr3); have HGR := Lib.hid hgr3; have t53 := (kept_cells hgr3 HN2.out).1; have x13 := (kept_cells hgr3 HN2.out).2; clear hown3 hgr3)
    go_ret2
    exact ⟨true, HW.out, rfl, tkept_of HGR.out HN2.out hbase, H3.out⟩
end
end Go.Proofs.Ytjlohmhmnghjkaa

/- The contract of (*share.Picks).next: the number by which a group picks. -/
import Derived.Test.YtbcpodbihldfgaaA
namespace Go.Proofs.Ytbcpodbihldfgaa
open Go.RowKit Go.Maps Go.Proofs.YtbcpodbihldfgaaW.PrintWords
set_option linter.unusedVariables false

section
variable {w w0 w1 : World} {base g n : Nat} {S S1 T : Nat → Prop} {wait : List Int} {G G' : List UInt8 → Int}

def NextPost (w0 w : World) (g : Nat) (S : Nat → Prop) (wait : List Int) (n : Nat) (G : List UInt8 → Int) (s : List UInt8) (e : Ending) (w' : World) : Prop :=
  e = .returned (.int .i64 (wait.headD (G s))) ∧ PK w' w0.heap.size g (fun k => S k ∨ w.heap.size ≤ k) wait.tail (n + 1) (setG G s (G s + 1)) ∧ Did w0 w w' S

theorem setG_bound {s : List UInt8} (h : ∀ t, 0 ≤ G t ∧ G t ≤ n) (t : List UInt8) : 0 ≤ setG G s (G s + 1) t ∧ setG G s (G s + 1) t ≤ (n + 1 : Nat) := by
  unfold setG
  have := h t
  have := h s
  split <;> omega

theorem next_calls (hB : Below w0.heap.size w0 w) (h : PK w w0.heap.size g S wait n G) (hn : n < 1000000) (s : ByteArray) (hs : s.size ≤ maxLen) :
    Calls Try.prog 21 #[.pointer (some ⟨g, 0, none⟩), .string s] w (NextPost w0 w g S wait n G s.data.toList) := by
  have hst := h.st
  obtain ⟨v, bm, D, h1, h2, h3, h5, h6, h7, h8, h9, h10⟩ := hst
  have c1 : w.cell? ⟨g, 1, none⟩ = some (.map (some bm)) := (blk_cell h1 1).trans rfl
  have hkey := WideMaps.keyOf_string_mk (P := Try.prog) Try.underlying9 hs
  have hgm := map_blk_ne h8 h1
  have hglt := blk_lt h1
  have hGs := h10 s.data.toList
  have hG0 : 0 ≤ G s.data.toList := hGs.1
  have hG1 : G s.data.toList ≤ 1000000 := by omega
  have h9s := Lib.hid (h9 s.data.toList)
  have hwf : (Lit.int .i64 (G s.data.toList + 1)).wf = true := WalkArith.wf_i64 (by omega)
  -- the state behind the map's update
  have hpk : ∀ w1, w1.ownsMap Try.prog 9 (plainElem Try.prog 3) bm (n + 1) (D.put (.string s.data.toList) (.lit (.int .i64 (G s.data.toList + 1)))) → w.grownBy w1 (some bm) →
      w1.heap[g]? = some (.cells #[v, .map (some bm)] 60 (0, 0)) ∧ Kd.Q (Kd.int .i64) 3 w1 w0.heap.size S v wait ∧ Below w0.heap.size w0 w1 ∧ Kept w w1 S ∧
      (∀ t, (D.put (.string s.data.toList) (.lit (.int .i64 (G s.data.toList + 1)))).atKey (.string t) (.lit (.int .i64 0)) = .lit (.int .i64 (setG G s.data.toList (G s.data.toList + 1) t))) := by
    intro w1 hm hgr
    refine ⟨(hgr.block g hglt (fun e => hgm (by injection e))).trans h1, ?_, hB.grown hgr hB.size (fun k hk => by cases hk; exact h6), Kept.of_grown hgr (Kept.refl _ _) (fun k hk => by cases hk; exact .inl h3), fun t => ?_⟩
    · refine Kd.Q_mono (Kd.Q_step (Kd.Q_bound h7) (fun k hk hlt => hgr.block k hlt (fun e => ?_))) (fun k hk => hk.1)
      obtain ⟨_, _, _, q, _, cells, hc⟩ := hk
      exact map_blk_ne h8 hc (by injection e)
    · unfold setG
      split
      · rename_i e; subst e; exact atKey_put_same h8.isMap (by trivial) _ _
      · rename_i e; rw [atKey_put_other (fun e' => e (by injection e'))]; exact h9 t
  cases wait with
  | nil =>
    obtain ⟨A, c, rfl, _⟩ := Kd.Q_slice h7
    have hfin : ∀ w1, w1.ownsMap Try.prog 9 (plainElem Try.prog 3) bm (n + 1) (D.put (.string s.data.toList) (.lit (.int .i64 (G s.data.toList + 1)))) → w.grownBy w1 (some bm) →
        NextPost w0 w g S [] n G s.data.toList (.returned (.int .i64 (G s.data.toList))) w1 ∧ w1.heap[g]? = some (.cells #[.slice A 0 c, .map (some bm)] 60 (0, 0)) := by
      intro w1 hm hgr
      obtain ⟨k1, k2, k3, k4, k5⟩ := hpk w1 hm hgr
      exact ⟨⟨rfl, ⟨_, bm, _, k1, .inl h2, .inl h3, h5, h6, Kd.Q_mono k2 (fun _ hk => .inl hk), hm, k5, setG_bound h10⟩, ⟨k3, k4⟩⟩, k1⟩
    have hfin' := Lib.hid hfin
    clear hfin hpk h h1 h7 h9 h10 hB
    go_enter Try.func21, Try.ntmps21
    go_wp2_with (first
      | (at_lookup; refine wpList_lookup_own_int _ rfl _ _ 58 rfl 9 3 .i64 law9 Try.underlying58 Try.underlying3 (zero3 _) bm n D rfl h8 _ _ rfl hkey ?_; intro c' hat hwc; have hc' := hat.symm.trans h9s.out; simp only [DataW.lit.injEq, Lit.int.injEq, true_and] at hc'; subst hc'; clear hat hwc h9s)
      | (at_mapUpdate; refine wpList_mapUpdate_own _ rfl _ _ _ 58 rfl 9 3 law9 Try.underlying58 _ bm n D rfl h8 (by unfold maxLen; omega) _ _ _ rfl rfl hkey _ [] (plainElem_int Try.underlying3 hwf) ?_; intro w1 hown1 hgr1; have hf1 := Lib.hid (hfin'.out w1 hown1 hgr1); have c10 : w1.cell? ⟨g, 0, none⟩ = some (.slice A 0 c) := (blk_cell hf1.out.2 0).trans rfl; clear hown1 hgr1 hfin')
      | go_in)
    go_ret
    exact hf1.out.1
  | cons x r =>
    obtain ⟨A, c, rfl, hlc⟩ := Kd.Q_slice h7
    obtain ⟨gq, o, cap, hv, _⟩ := Kd.Q_form h7 (by simp)
    injection hv with hA _ hcc
    subst hA hcc
    have hcell : ∀ w1, Kd.Q (Kd.int .i64) 3 w1 w0.heap.size S (.slice (some ⟨gq, o, none⟩) (x :: r).length c) (x :: r) → w1.cell? ⟨gq, o, none⟩ = some (.int .i64 x) := by
      intro w1 hq
      have := (Kd.Q_cell (enc := Value.int .i64) (h1 := fun _ => rfl) 0 hq 0 (by omega) (by simp)).1
      simpa [rdOf] using this
    obtain ⟨i0, hi0, hz0⟩ := Option.map_eq_some_iff.1 info3'
    simp only [Prod.mk.injEq] at hz0
    have hcut := cut_from (P := Try.prog) 23 3 .i64 Try.underlying23 hi0 1 hz0.2.1 (some ⟨gq, o, none⟩) (x :: r).length c 1 (by omega) (by simp; omega)
    obtain ⟨vr, hvr⟩ : ∃ vr, vr = (if c = (1 : Int).toNat then (some ⟨gq, o, none⟩ : Option Addr) else (some ⟨gq, o, none⟩ : Option Addr).map (·.add ((1 : Int).toNat * 1))) := ⟨_, rfl⟩
    rw [← hvr] at hcut
    have hcut' : ∀ W : World, (Instr.slice 23 (.slice (some ⟨gq, o, none⟩) (r.length + 1) c) (some (.int .i64 1)) none none).run Try.prog W = .ok (.slice vr r.length (c - 1)) W := by
      intro W
      have := hcut W
      simpa using this
    have hfin : ∀ w1, w1.ownsMap Try.prog 9 (plainElem Try.prog 3) bm (n + 1) (D.put (.string s.data.toList) (.lit (.int .i64 (G s.data.toList + 1)))) → w.grownBy w1 (some bm) →
        NextPost w0 w g S (x :: r) n G s.data.toList (.returned (.int .i64 x)) (w1.setCell ⟨g, 0, none⟩ (.slice vr r.length (c - 1))) ∧ w1.heap[g]? = some (.cells #[.slice (some ⟨gq, o, none⟩) (r.length + 1) c, .map (some bm)] 60 (0, 0)) ∧ w1.cell? ⟨gq, o, none⟩ = some (.int .i64 x) := by
      intro w1 hm hgr
      obtain ⟨k1, k2, k3, k4, k5⟩ := hpk w1 hm hgr
      refine ⟨⟨rfl, ⟨_, bm, _, (blk_set k1 0 _).trans rfl, .inl h2, .inl h3, h5, h6, ?_, map_move hm (Below.heap_setCell _ _ _ _ (Ne.symm hgm)), k5, setG_bound h10⟩, ⟨k3.setCell h5 _, k4.setCell (.inl h2) _⟩⟩, k1, hcell w1 k2⟩
      have hd := Kd.Q_drop (k := 1) k2 (by simp)
      have hd2 : Kd.Q (Kd.int .i64) 3 w1 w0.heap.size S (.slice vr r.length (c - 1)) r := by
        rw [hvr]
        have e1 : (Kd.int .i64).sz = 1 := rfl
        simpa [e1] using hd
      exact Kd.Q_mono (Kd.Q_set hd2 k1 (by decide) 0 _) (fun _ hk => .inl hk)
    have hfin' := Lib.hid hfin
    have hcut2 := hcut'
    clear hfin hpk h h1 h7 h9 h10 hB hcut hvr hcell hcut' hlc
    go_enter Try.func21, Try.ntmps21
    go_wp2_with (first
      | (at_lookup; refine wpList_lookup_own_int _ rfl _ _ 58 rfl 9 3 .i64 law9 Try.underlying58 Try.underlying3 (zero3 _) bm n D rfl h8 _ _ rfl hkey ?_; intro c' hat hwc; have hc' := hat.symm.trans h9s.out; simp only [DataW.lit.injEq, Lit.int.injEq, true_and] at hc'; subst hc'; clear hat hwc h9s)
      | (at_mapUpdate; refine wpList_mapUpdate_own _ rfl _ _ _ 58 rfl 9 3 law9 Try.underlying58 _ bm n D rfl h8 (by unfold maxLen; omega) _ _ _ rfl rfl hkey _ [] (plainElem_int Try.underlying3 hwf) ?_; intro w1 hown1 hgr1; have hf1 := Lib.hid (hfin'.out w1 hown1 hgr1); have c10 : w1.cell? ⟨g, 0, none⟩ = some (.slice (some ⟨gq, o, none⟩) (r.length + 1) c) := (blk_cell hf1.out.2.1 0).trans rfl; have f10 : w1.frozen? ⟨g, 0, none⟩ = false := blk_frozen hf1.out.2.1 0; have cq := hf1.out.2.2; clear hown1 hgr1 hfin')
      | go_in)
    go_ret
    exact hf1.out.1
end
end Go.Proofs.Ytbcpodbihldfgaa

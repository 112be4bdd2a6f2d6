/- Parts of a proof about aliases: B1, B2, B3. -/
import Derived.Test.YtbfgpkogginmjaaGreatDoorZ11
import Derived.Test.YtbfgpkogginmjaaGreatDoorZ15
section
namespace Go.Proofs.YtbfgpkogginmjaaGreatDoor
open Go.RowKit Go.Lib Go.Proofs.YtbfgpkogginmjaaGreatDoorW.PrintWords Go.Proofs.YtbfgpkogginmjaaGreatDoor.PSwitchboardGreat
set_option linter.unusedVariables false
set_option linter.unusedSimpArgs false
set_option maxRecDepth 1000000
def Is (v : Value) (W : World) (e : Ending) (w' : World) : Prop := e = .returned v ∧ w' = W
def pnewW (w : World) : World := (w.alloc (.map #[] 0)).alloc (.cells #[.map (some w.heap.size)] 143)
theorem pnew_calls {w : World} : Calls Tryz.prog 27 #[] w (Is (.pointer (some ⟨(pnewW w).heap.size - 1, 0, none⟩)) (pnewW w)) := by
  have hmm := @run_makeMap Tryz.prog
  go_enter Tryz.func27, Tryz.ntmps27
  go_wp2
  go_ret
  exact ⟨by simp [pnewW], by simp [pnewW]⟩
def tmnewW (w : World) : World := (w.alloc (.map #[] 0)).alloc (.cells #[.map (some w.heap.size)] 160)
theorem tmnew_calls {w : World} : Calls Tryz.prog 31 #[] w (Is (.pointer (some ⟨(tmnewW w).heap.size - 1, 0, none⟩)) (tmnewW w)) := by
  have hmm := @run_makeMap Tryz.prog
  go_enter Tryz.func31, Tryz.ntmps31
  go_wp2
  go_ret
  exact ⟨by simp [tmnewW], by simp [tmnewW]⟩
def shnewW (w : World) : World := (w.alloc (.map #[] 0)).alloc (.cells #[.slice none 0 0, .map (some w.heap.size)] 215)
theorem shnew_calls {w : World} : Calls Tryz.prog 52 #[] w (Is (.pointer (some ⟨(shnewW w).heap.size - 1, 0, none⟩)) (shnewW w)) := by
  have hmm := @run_makeMap Tryz.prog
  go_enter Tryz.func52, Tryz.ntmps52
  go_wp2
  go_ret
  exact ⟨by simp [shnewW], by simp [shnewW]⟩
def frnewW (w : World) : World := ((w.alloc (.map #[] 0)).alloc (.map #[] 0)).alloc (.cells #[.map (some w.heap.size), .map (some (w.heap.size + 1))] 274)
theorem frnew_calls {w : World} : Calls Tryz.prog 88 #[] w (Is (.pointer (some ⟨(frnewW w).heap.size - 1, 0, none⟩)) (frnewW w)) := by
  have hmm := @run_makeMap Tryz.prog
  go_enter Tryz.func88, Tryz.ntmps88
  go_wp2
  go_ret
  exact ⟨by simp [frnewW], by simp [frnewW]⟩
def trnewW (w : World) : World := (frnewW w).alloc (.cells #[.pointer (some ⟨w.heap.size + 2, 0, none⟩), .int .i64 0] 212)
theorem trnew_calls {w : World} : Calls Tryz.prog 51 #[] w (Is (.pointer (some ⟨(trnewW w).heap.size - 1, 0, none⟩)) (trnewW w)) := by
  have hmm := @run_makeMap Tryz.prog
  go_enter Tryz.func51, Tryz.ntmps51
  go_wp2_with (first | (go_at_call 88; (with_reducible refine (frnew_calls).mono ?_); rintro e w1 ⟨rfl, rfl⟩))
  go_ret
  exact ⟨by simp [trnewW], by simp [trnewW, frnewW]⟩
def renewW (w : World) : World := (w.alloc (.map #[] 0)).alloc (.cells #[.map (some w.heap.size), .int .i64 20] 154)
theorem renew_calls {w : World} : Calls Tryz.prog 29 #[.int .i64 20] w (Is (.pointer (some ⟨(renewW w).heap.size - 1, 0, none⟩)) (renewW w)) := by
  have hmm := @run_makeMap Tryz.prog
  go_enter Tryz.func29, Tryz.ntmps29
  go_wp2
  go_ret
  exact ⟨by simp [renewW], by simp [renewW]⟩
def winewW (w : World) : World := (tmnewW (w.alloc (.map #[] 0))).alloc (.cells #[.map (some w.heap.size), .pointer (some ⟨w.heap.size + 2, 0, none⟩)] 157)
theorem winew_calls {w : World} : Calls Tryz.prog 30 #[] w (Is (.pointer (some ⟨(winewW w).heap.size - 1, 0, none⟩)) (winewW w)) := by
  have hmm := @run_makeMap Tryz.prog
  go_enter Tryz.func30, Tryz.ntmps30
  go_wp2_with (first | (go_at_call 31; (with_reducible refine (tmnew_calls).mono ?_); rintro e w1 ⟨rfl, rfl⟩))
  go_ret
  exact ⟨by simp [winewW], by simp [winewW, tmnewW]⟩
def innewW (w : World) : World := (w.alloc (.map #[] 0)).alloc (.cells #[.map (some w.heap.size), .int .i64 30] 340)
theorem innew_calls {w : World} : Calls Tryz.prog 146 #[.int .i64 30] w (Is (.pointer (some ⟨(innewW w).heap.size - 1, 0, none⟩)) (innewW w)) := by
  have hmm := @run_makeMap Tryz.prog
  go_enter Tryz.func146, Tryz.ntmps146
  go_wp2
  go_ret
  exact ⟨by simp [innewW], by simp [innewW]⟩
def idnewW (w : World) : World := (w.alloc (.map #[] 0)).alloc (.cells #[.map (some w.heap.size), .int .u32 0, .int .u32 65535] 398)
theorem idnew_calls {w : World} : Calls Tryz.prog 196 #[.int .u32 65535] w (Is (.pointer (some ⟨(idnewW w).heap.size - 1, 0, none⟩)) (idnewW w)) := by
  have hmm := @run_makeMap Tryz.prog
  go_enter Tryz.func196, Tryz.ntmps196
  go_wp2
  go_ret
  exact ⟨by simp [idnewW], by simp [idnewW]⟩
def wdnewW (w : World) : World := (idnewW w).alloc (.cells #[.pointer (some ⟨w.heap.size + 1, 0, none⟩), .slice none 0 0, .int .i64 0] 345)
theorem wdnew_calls {w : World} : Calls Tryz.prog 147 #[.int .i64 0] w (Is (.pointer (some ⟨(wdnewW w).heap.size - 1, 0, none⟩)) (wdnewW w)) := by
  have hmm := @run_makeMap Tryz.prog
  go_enter Tryz.func147, Tryz.ntmps147
  go_wp2_with (first | (go_at_call 196; (with_reducible refine (idnew_calls).mono ?_); rintro e w1 ⟨rfl, rfl⟩))
  go_ret
  exact ⟨by simp [wdnewW], by simp [wdnewW, idnewW]⟩
def qunewW (w : World) : World := w.alloc (.cells #[.slice none 0 0, .int .i64 40] 305)
theorem qunew_calls {w : World} : Calls Tryz.prog 148 #[.int .i64 40] w (Is (.pointer (some ⟨(qunewW w).heap.size - 1, 0, none⟩)) (qunewW w)) := by
  have hmm := @run_makeMap Tryz.prog
  go_enter Tryz.func148, Tryz.ntmps148
  go_wp2
  go_ret
  exact ⟨by simp [qunewW], by simp [qunewW]⟩
def ronewW (w : World) : World := (shnewW (trnewW (trnewW w))).alloc (.cells #[.pointer (some ⟨w.heap.size + 3, 0, none⟩), .pointer (some ⟨w.heap.size + 7, 0, none⟩), .pointer (some ⟨w.heap.size + 9, 0, none⟩)] 151)
theorem ronew_calls {w : World} : Calls Tryz.prog 28 #[] w (Is (.pointer (some ⟨(ronewW w).heap.size - 1, 0, none⟩)) (ronewW w)) := by
  have hmm := @run_makeMap Tryz.prog
  go_enter Tryz.func28, Tryz.ntmps28
  go_wp2_with (first | (go_at_call 51; (with_reducible refine (trnew_calls).mono ?_); rintro e w1 ⟨rfl, rfl⟩) | (go_at_call 52; (with_reducible refine (shnew_calls).mono ?_); rintro e w1 ⟨rfl, rfl⟩))
  go_ret
  exact ⟨by simp [ronewW], by simp [ronewW, trnewW, frnewW, shnewW]⟩
def Seg (w : World) (lo : Nat) (L : List Obj) : Prop := ∀ j o, L[j]? = some o → w.heap[lo + j]? = some o
theorem Seg.nil (w : World) (lo : Nat) : Seg w lo [] := fun j o h => by simp at h
theorem Seg.snoc {w : World} {lo : Nat} {L : List Obj} (h : Seg w lo L) (o : Obj) (hl : lo + L.length = w.heap.size) : Seg (w.alloc o) lo (L ++ [o]) := fun j u hu => by
  by_cases hj : j < L.length
  · rw [List.getElem?_append_left hj] at hu
    have h1 := h j u hu
    exact (Below.heap_alloc w o _ (by omega)).trans h1
  · rw [List.getElem?_append_right (by omega)] at hu
    have h2 : j - L.length = 0 := by
      cases h3 : j - L.length with
      | zero => rfl
      | succ k => rw [h3] at hu; simp at hu
    rw [h2] at hu
    have h3 : o = u := by simpa using hu
    rw [show lo + j = w.heap.size by omega, ← h3]
    exact heap_alloc_new w o
theorem Seg.to {w w' : World} {lo : Nat} {L : List Obj} (h : Seg w lo L) (hl : lo + L.length ≤ w.heap.size) (hb : Below w.heap.size w w') : Seg w' lo L := fun j u hu => by
  have hj : j < L.length := (List.getElem?_eq_some_iff.1 hu).1
  exact (hb.block _ (by omega)).trans (h j u hu)
def mp0 : Obj := .map #[] 0
def cl (c : Array Value) (t : TypeId) : Obj := .cells c t
def bL : Nat → Nat → List Obj
  | 1, n => [mp0, cl #[.map (some n)] 143]
  | 2, n => [mp0]
  | 3, n => [mp0]
  | 4, n => [mp0]
  | 5, n => [mp0, mp0, cl #[.map (some n), .map (some (n + 1))] 274, cl #[.pointer (some ⟨n + 2, 0, none⟩), .int .i64 0] 212, mp0, mp0, cl #[.map (some (n + 4)), .map (some (n + 5))] 274, cl #[.pointer (some ⟨n + 6, 0, none⟩), .int .i64 0] 212, mp0, cl #[.slice none 0 0, .map (some (n + 8))] 215, cl #[.pointer (some ⟨n + 3, 0, none⟩), .pointer (some ⟨n + 7, 0, none⟩), .pointer (some ⟨n + 9, 0, none⟩)] 151]
  | 8, n => [mp0, cl #[.map (some n), .int .i64 20] 154]
  | 9, n => [mp0, mp0, cl #[.map (some (n + 1))] 160, cl #[.map (some n), .pointer (some ⟨n + 2, 0, none⟩)] 157]
  | 10, n => [mp0, cl #[.map (some n)] 160]
  | _, _ => []
def bV : Nat → Nat → Nat → Value
  | b, 0, _ => .agg #[.int .i64 40, .int .i64 30, .int .i64 20, .int .i64 2000, .int .u32 9]
  | b, 1, n => .pointer (some ⟨n + 1, 0, none⟩)
  | b, 2, n => .map (some n)
  | b, 3, n => .map (some n)
  | b, 4, n => .map (some n)
  | b, 5, n => .pointer (some ⟨n + 10, 0, none⟩)
  | b, 6, _ => .pointer (some ⟨b, 2, none⟩)
  | b, 7, _ => .int .i64 20
  | b, 8, n => .pointer (some ⟨n + 1, 0, none⟩)
  | b, 9, n => .pointer (some ⟨n + 3, 0, none⟩)
  | b, 10, n => .pointer (some ⟨n + 1, 0, none⟩)
  | _, _, _ => undef
structure NewJ (W0 : World) (B b : Nat) (l : Array Bool) (vs : Nat → Value) (lo : Nat → Nat) (w : World) : Prop where
  below : Below B W0 w
  part : ∀ i, i < 11 → l.getD i false = true → vs i = bV b i (lo i) ∧ B ≤ lo i ∧ lo i + (bL i (lo i)).length ≤ w.heap.size ∧ Seg w (lo i) (bL i (lo i))
  apart : ∀ i j, i < 11 → j < 11 → i ≠ j → l.getD i false = true → l.getD j false = true → lo i + (bL i (lo i)).length ≤ lo j ∨ lo j + (bL j (lo j)).length ≤ lo i
theorem getD_set {l : Array Bool} {i j : Nat} (h : (l.setIfInBounds i true).getD j false = true) : j = i ∨ l.getD j false = true := by
  rw [Array.getD_eq_getD_getElem?, Array.getElem?_setIfInBounds] at h
  rw [Array.getD_eq_getD_getElem?]
  by_cases hij : i = j
  · exact .inl hij.symm
  · rw [if_neg hij] at h
    exact .inr h
theorem NewJ.step {W0 w w' : World} {B b : Nat} {l : Array Bool} {vs : Nat → Value} {lo : Nat → Nat} (h : NewJ W0 B b l vs lo w) (i : Nat) (v : Value) (hb : Below w.heap.size w w') (hB : B ≤ w.heap.size)
    (hv : i < 11 → v = bV b i w.heap.size) (hl : i < 11 → w.heap.size + (bL i w.heap.size).length ≤ w'.heap.size ∧ Seg w' w.heap.size (bL i w.heap.size)) : NewJ W0 B b (l.setIfInBounds i true) (fun k => if k = i then v else vs k) (fun k => if k = i then w.heap.size else lo k) w' where
  below := h.below.trans (hb.mono hB)
  part := fun j hj hl2 => by
    by_cases hji : j = i
    · subst hji
      simp only [if_true]
      exact ⟨hv hj, hB, (hl hj).1, (hl hj).2⟩
    · rw [if_neg hji, if_neg hji]
      obtain ⟨h1, h2, h3, h4⟩ := h.part j hj ((getD_set hl2).resolve_left hji)
      exact ⟨h1, h2, Nat.le_trans h3 hb.size, h4.to h3 hb⟩
  apart := fun j k hj hk hjk h1 h2 => by
    by_cases hji : j = i
    · subst hji
      rw [if_pos rfl, if_neg (fun e => hjk e.symm)]
      exact .inr (h.part k hk ((getD_set h2).resolve_left (fun e => hjk e.symm))).2.2.1
    · rw [if_neg hji]
      by_cases hki : k = i
      · subst hki
        rw [if_pos rfl]
        exact .inl (h.part j hj ((getD_set h1).resolve_left hji)).2.2.1
      · rw [if_neg hki]
        exact h.apart j k hj hk hjk ((getD_set h1).resolve_left hji) ((getD_set h2).resolve_left hki)
def bC (lo : Nat → Nat) : Array Value := #[.int .i64 40, .int .i64 30, .int .i64 20, .int .i64 2000, .int .u32 9, .pointer (some ⟨lo 1 + 1, 0, none⟩), .map (some (lo 2)), .map (some (lo 3)), .map (some (lo 4)), .pointer (some ⟨lo 5 + 10, 0, none⟩), .pointer (some ⟨lo 8 + 1, 0, none⟩), .pointer (some ⟨lo 9 + 3, 0, none⟩), .pointer (some ⟨lo 10 + 1, 0, none⟩), .int .i64 0, .int .i64 0]
structure NewT (B : Nat) (l : Array Bool) (vs : Nat → Value) (lo : Nat → Nat) (v2 v3 : Value) (w : World) : Prop where
  t11 : l.getD 11 false = true → (∀ i, i < 11 → l.getD i false = true) ∧ vs 11 = .agg (bC lo)
  t12 : l.getD 12 false = true → l.getD 11 false = true ∧ ∃ hb, vs 12 = .pointer (some ⟨hb, 0, none⟩) ∧ w.heap[hb]? = some (cl (bC lo) 111) ∧ B ≤ hb ∧ ∀ i, i < 11 → lo i + (bL i (lo i)).length ≤ hb
  t13 : l.getD 13 false = true → l.getD 12 false = true ∧ v2 = vs 12
  t14 : l.getD 14 false = true → v3 = .int .i64 0
  t7 : l.getD 7 false = true → l.getD 6 false = true
  t8 : l.getD 8 false = true → l.getD 7 false = true
theorem getD_ne {l : Array Bool} {i j : Nat} (h : (l.setIfInBounds i true).getD j false = true) (hne : j ≠ i) : l.getD j false = true := (getD_set h).resolve_left hne
theorem getD_put {l : Array Bool} {i j : Nat} (h : l.getD j false = true) : (l.setIfInBounds i true).getD j false = true := by
  rw [Array.getD_eq_getD_getElem?] at h ⊢
  rw [Array.getElem?_setIfInBounds]
  by_cases hij : i = j
  · subst hij
    rw [if_pos rfl]
    split
    · rfl
    · rename_i hlt
      rw [Array.getElem?_eq_none (by omega)] at h
      cases h
  · rw [if_neg hij]
    exact h
theorem NewT.early {B : Nat} {l : Array Bool} {vs vs' : Nat → Value} {lo lo' : Nat → Nat} {v2 v3 : Value} {w w' : World} (h : NewT B l vs lo v2 v3 w) (i : Nat) (hi : i < 11) (hn : ¬ l.getD i false = true) (h7 : i = 7 → l.getD 6 false = true) (h8 : i = 8 → l.getD 7 false = true) : NewT B (l.setIfInBounds i true) vs' lo' v2 v3 w' where
  t11 := fun h1 => absurd ((h.t11 (getD_ne h1 (by omega))).1 i hi) hn
  t12 := fun h1 => absurd ((h.t11 (h.t12 (getD_ne h1 (by omega))).1).1 i hi) hn
  t13 := fun h1 => absurd ((h.t11 (h.t12 (h.t13 (getD_ne h1 (by omega))).1).1).1 i hi) hn
  t14 := fun h1 => h.t14 (getD_ne h1 (by omega))
  t7 := fun h1 => by
    rcases getD_set h1 with h2 | h2
    · exact getD_put (h7 h2.symm)
    · exact getD_put (h.t7 h2)
  t8 := fun h1 => by
    rcases getD_set h1 with h2 | h2
    · exact getD_put (h8 h2.symm)
    · exact getD_put (h.t8 h2)
def NJ (W0 : World) (B b : Nat) (l : Array Bool) (a : Act) (w : World) : Prop := ∃ (vs : Nat → Value) (lo : Nat → Nat) (v2 v3 : Value), a = ⟨#[.agg #[.int .i64 40, .int .i64 30, .int .i64 20, .int .i64 2000, .int .u32 9], .pointer (some ⟨b, 0, none⟩), v2, v3, .int .i64 0, .agg #[.int .i64 40, .int .i64 30, .int .i64 20, .int .i64 2000, .int .u32 9], .int .i64 0, .int .i64 0, .bool false, undef, vs 0, vs 1, vs 2, vs 3, vs 4, vs 5, vs 6, vs 7, vs 8, vs 9, vs 10, vs 11, vs 12], []⟩ ∧ Hid (NewJ W0 B b l vs lo w) ∧ Hid (NewT B l vs lo v2 v3 w) ∧ Hid (w.heap[b]? = some (.cells #[.int .i64 40, .int .i64 30, .int .i64 20, .int .i64 2000, .int .u32 9] 57 (0, 0))) ∧ Hid (B ≤ w.heap.size)
def wAll (w : World) (L : List Obj) : World := L.foldl World.alloc w
theorem wAll_seg0 (lo : Nat) : ∀ (L L0 : List Obj) (w : World), Seg w lo L0 → lo + L0.length = w.heap.size → Seg (wAll w L) lo (L0 ++ L) ∧ (wAll w L).heap.size = w.heap.size + L.length ∧ Below w.heap.size w (wAll w L)
  | [], L0, w, h, hl => ⟨by rw [List.append_nil]; exact h, rfl, Below.refl _ _⟩
  | o :: L, L0, w, h, hl => by
    obtain ⟨h1, h2, h3⟩ := wAll_seg0 lo L (L0 ++ [o]) (w.alloc o) (h.snoc o hl) (by rw [List.length_append, World.size_alloc]; show lo + (L0.length + 1) = _; omega)
    rw [List.append_assoc] at h1
    refine ⟨h1, ?_, ((Below.refl w.heap.size w).alloc (Nat.le_refl _) o).trans (h3.mono (by rw [World.size_alloc]; omega))⟩
    rw [World.size_alloc] at h2
    rw [List.length_cons]
    show (wAll (w.alloc o) L).heap.size = _
    omega
theorem wAll_seg (w : World) (L : List Obj) : Seg (wAll w L) w.heap.size L ∧ (wAll w L).heap.size = w.heap.size + L.length ∧ Below w.heap.size w (wAll w L) := wAll_seg0 w.heap.size L [] w (Seg.nil _ _) rfl
theorem check_calls {w : World} : Calls Tryz.prog 26 #[.agg #[.int .i64 40, .int .i64 30, .int .i64 20, .int .i64 2000, .int .u32 9]] w (Is (.int .i64 0) (w.alloc (.cells #[.int .i64 40, .int .i64 30, .int .i64 20, .int .i64 2000, .int .u32 9] 57))) := by
  go_enter Tryz.func26, Tryz.ntmps26
  go_wp2
  go_ret
  exact ⟨rfl, rfl⟩
theorem cfcell {w : World} {bx : Nat} {t : TypeId} {a0 a1 a2 a3 a4 : Value} (h : w.heap[bx]? = some (.cells #[a0, a1, a2, a3, a4] t (0, 0))) : w.cell? ⟨bx, 0, none⟩ = some a0 ∧ w.cell? ⟨bx, 1, none⟩ = some a1 ∧ w.cell? ⟨bx, 2, none⟩ = some a2 ∧ w.cell? ⟨bx, 3, none⟩ = some a3 ∧ w.cell? ⟨bx, 4, none⟩ = some a4 :=
  ⟨(blk_cell h 0).trans rfl, (blk_cell h 1).trans rfl, (blk_cell h 2).trans rfl, (blk_cell h 3).trans rfl, (blk_cell h 4).trans rfl⟩
theorem rep_f (n i : Nat) : ¬ (Array.replicate n false).getD i false = true := by
  rw [Array.getD_eq_getD_getElem?, Array.getElem?_replicate]
  split <;> simp
def BNewP (w : World) (e : Ending) (w' : World) : Prop := ∃ (lo : Nat → Nat) (hb : Nat), e = .returned (.tuple #[.pointer (some ⟨hb, 0, none⟩), .int .i64 0]) ∧ Below w.heap.size w w' ∧ w'.heap[hb]? = some (cl (bC lo) 111) ∧ (∀ i, i < 11 → w.heap.size ≤ lo i ∧ lo i + (bL i (lo i)).length ≤ hb ∧ Seg w' (lo i) (bL i (lo i))) ∧ (∀ i j, i < 11 → j < 11 → i ≠ j → lo i + (bL i (lo i)).length ≤ lo j ∨ lo j + (bL j (lo j)).length ≤ lo i)
set_option maxHeartbeats 4000000 in
theorem bnew_calls {w : World} : Calls Tryz.prog 13 #[.agg #[.int .i64 40, .int .i64 30, .int .i64 20, .int .i64 2000, .int .u32 9]] w (BNewP w) := by
  have hmm := @run_makeMap Tryz.prog
  have HX := Lib.hid ((blk_alloc (heap_alloc_new w (.cells #[.int .i64 40, .int .i64 30, .int .i64 20, .int .i64 2000, .int .u32 9] 57)) (.cells #[.int .i64 40, .int .i64 30, .int .i64 20, .int .i64 2000, .int .u32 9] 57)))
  have HBW := Lib.hid (((Below.refl w.heap.size w).alloc (Nat.le_refl _) (.cells #[.int .i64 40, .int .i64 30, .int .i64 20, .int .i64 2000, .int .u32 9] 57)).alloc (by rw [World.size_alloc]; omega) (.cells #[.int .i64 40, .int .i64 30, .int .i64 20, .int .i64 2000, .int .u32 9] 57))
  go_enter Tryz.func13, Tryz.ntmps13
  go_upto_region 4 with (first | (go_at_call 26; (with_reducible refine (check_calls).mono ?_); rintro e w1 ⟨rfl, rfl⟩))
  generalize ((w.alloc (.cells #[.int .i64 40, .int .i64 30, .int .i64 20, .int .i64 2000, .int .u32 9] 57)).alloc (.cells #[.int .i64 40, .int .i64 30, .int .i64 20, .int .i64 2000, .int .u32 9] 57)) = W4 at HX HBW ⊢
  refine wp_region_any (by kernel_rfl) ?_
  have hbd : Below W4.heap.size W4 W4.drew := ⟨rfl, rfl, rfl, Nat.le_refl _, fun _ _ => rfl⟩
  refine wpAny_inv (J := NJ W4 W4.heap.size w.heap.size) ?hstep ?hdone _ _ _ _ (by simp) (by decide +kernel) ?start
  case start =>
    refine ⟨fun _ => undef, fun _ => 0, _, _, rfl, Lib.hid ⟨hbd, ?_, ?_⟩, Lib.hid ⟨?_, ?_, ?_, ?_, ?_, ?_⟩, Lib.hid (blk_below HX.out hbd), Lib.hid (Nat.le_refl _)⟩
    · exact fun i hi h => absurd h (rep_f _ _)
    · exact fun i j _ _ _ h _ => absurd h (rep_f _ _)
    all_goals exact fun h => absurd h (rep_f _ _)
  case hdone =>
    intro l a W hs hJ hr
    obtain ⟨vs, lo, v2, v3, rfl, HN, HT, HX2, HB⟩ := hJ
    have hall := ready_all (by decide +kernel) hs hr
    have D := fun i (hi : i < 15) => hall i hi
    have e14 := HT.out.t14 (D 14 (by decide))
    have e13 := (HT.out.t13 (D 13 (by decide))).2
    obtain ⟨_, hb, e12, hbx, _, hlt⟩ := HT.out.t12 (D 12 (by decide))
    have HFIN := Lib.hid (show BNewP w (.returned (.tuple #[.pointer (some ⟨hb, 0, none⟩), .int .i64 0])) W from ⟨lo, hb, rfl, HBW.out.trans (HN.out.below.mono HBW.out.size), hbx, fun i hi => ⟨Nat.le_trans HBW.out.size (HN.out.part i hi (D i (by omega))).2.1, hlt i hi, (HN.out.part i hi (D i (by omega))).2.2.2⟩, fun i j hi hj hne => HN.out.apart i j hi hj hne (D i (by omega)) (D j (by omega))⟩)
    rw [e12] at e13
    subst e13 e14
    clear hall D e12 hbx hlt hr hs
    go_wp2
    go_ret2
    exact HFIN.out
  case hstep =>
    intro l a W i hs hJ hi
    obtain ⟨vs, lo, v2, v3, rfl, HN, HT, HX2, HB⟩ := hJ
    obtain ⟨h1, h2, h3⟩ := ready_mem hi
    have hn : ¬ l.getD i false = true := fun h => by
      rw [Array.getD_eq_getD_getElem?] at h h2
      cases h4 : l[i]? with
      | none => rw [h4] at h; cases h
      | some x => rw [h4] at h h2; rw [show x = true from h] at h2; cases h2
    have hi15 : i < 15 := h1
    have HNN := Lib.hid hn
    clear hi h1 h2 hn
    rcases (show i = 0 ∨ i = 1 ∨ i = 2 ∨ i = 3 ∨ i = 4 ∨ i = 5 ∨ i = 6 ∨ i = 7 ∨ i = 8 ∨ i = 9 ∨ i = 10 ∨ i = 11 ∨ i = 12 ∨ i = 13 ∨ i = 14 by omega) with rfl | rfl | rfl | rfl | rfl | rfl | rfl | rfl | rfl | rfl | rfl | rfl | rfl | rfl | rfl
    · obtain ⟨x0, x1, x2, x3, x4⟩ := cfcell HX2.out
      refine wpOp_step rfl (fun K hK => ?_)
      go_simp
      exact hK _ _ ⟨fun k => if k = 0 then .agg #[.int .i64 40, .int .i64 30, .int .i64 20, .int .i64 2000, .int .u32 9] else vs k, fun k => if k = 0 then W.heap.size else lo k, v2, v3, rfl, Lib.hid (HN.out.step 0 (.agg #[.int .i64 40, .int .i64 30, .int .i64 20, .int .i64 2000, .int .u32 9]) (Below.refl _ _) HB.out (fun _ => rfl) (fun _ => ⟨Nat.le_refl _, Seg.nil _ _⟩)), Lib.hid (HT.out.early 0 (by decide) HNN.out (fun h => by cases h) (fun h => by cases h)), HX2, HB⟩
    · refine wpOp_step rfl (fun K hK => ?_)
      go_simp
      refine (pnew_calls).mono ?_
      rintro e w1 ⟨rfl, rfl⟩
      go_simp
      have hsg := wAll_seg W (bL 1 W.heap.size)
      have he : pnewW W = wAll W (bL 1 W.heap.size) := by simp [pnewW, wAll, bL, mp0, cl]
      rw [← he] at hsg
      exact hK _ _ ⟨fun k => if k = 1 then .pointer (some ⟨(pnewW W).heap.size - 1, 0, none⟩) else vs k, fun k => if k = 1 then W.heap.size else lo k, v2, v3, rfl, Lib.hid (HN.out.step 1 (.pointer (some ⟨(pnewW W).heap.size - 1, 0, none⟩)) hsg.2.2 HB.out (fun _ => by simp [bV, pnewW]) (fun _ => ⟨Nat.le_of_eq hsg.2.1.symm, hsg.1⟩)), Lib.hid (HT.out.early 1 (by decide) HNN.out (fun h => by cases h) (fun h => by cases h)), Lib.hid (blk_below HX2.out hsg.2.2), Lib.hid (Nat.le_trans HB.out hsg.2.2.size)⟩
    · refine wpOp_step rfl (fun K hK => ?_)
      go_simp
      have hsg := wAll_seg W (bL 2 W.heap.size)
      exact hK _ _ ⟨fun k => if k = 2 then .map (some W.heap.size) else vs k, fun k => if k = 2 then W.heap.size else lo k, v2, v3, rfl, Lib.hid (HN.out.step 2 (.map (some W.heap.size)) hsg.2.2 HB.out (fun _ => rfl) (fun _ => ⟨Nat.le_of_eq hsg.2.1.symm, hsg.1⟩)), Lib.hid (HT.out.early 2 (by decide) HNN.out (fun h => by cases h) (fun h => by cases h)), Lib.hid (blk_below HX2.out hsg.2.2), Lib.hid (Nat.le_trans HB.out hsg.2.2.size)⟩
    · refine wpOp_step rfl (fun K hK => ?_)
      go_simp
      have hsg := wAll_seg W (bL 3 W.heap.size)
      exact hK _ _ ⟨fun k => if k = 3 then .map (some W.heap.size) else vs k, fun k => if k = 3 then W.heap.size else lo k, v2, v3, rfl, Lib.hid (HN.out.step 3 (.map (some W.heap.size)) hsg.2.2 HB.out (fun _ => rfl) (fun _ => ⟨Nat.le_of_eq hsg.2.1.symm, hsg.1⟩)), Lib.hid (HT.out.early 3 (by decide) HNN.out (fun h => by cases h) (fun h => by cases h)), Lib.hid (blk_below HX2.out hsg.2.2), Lib.hid (Nat.le_trans HB.out hsg.2.2.size)⟩
    · refine wpOp_step rfl (fun K hK => ?_)
      go_simp
      have hsg := wAll_seg W (bL 4 W.heap.size)
      exact hK _ _ ⟨fun k => if k = 4 then .map (some W.heap.size) else vs k, fun k => if k = 4 then W.heap.size else lo k, v2, v3, rfl, Lib.hid (HN.out.step 4 (.map (some W.heap.size)) hsg.2.2 HB.out (fun _ => rfl) (fun _ => ⟨Nat.le_of_eq hsg.2.1.symm, hsg.1⟩)), Lib.hid (HT.out.early 4 (by decide) HNN.out (fun h => by cases h) (fun h => by cases h)), Lib.hid (blk_below HX2.out hsg.2.2), Lib.hid (Nat.le_trans HB.out hsg.2.2.size)⟩
    · refine wpOp_step rfl (fun K hK => ?_)
      go_simp
      refine (ronew_calls).mono ?_
      rintro e w1 ⟨rfl, rfl⟩
      go_simp
      have hsg := wAll_seg W (bL 5 W.heap.size)
      have he : ronewW W = wAll W (bL 5 W.heap.size) := by simp [ronewW, trnewW, frnewW, shnewW, wAll, bL, mp0, cl]
      rw [← he] at hsg
      exact hK _ _ ⟨fun k => if k = 5 then .pointer (some ⟨(ronewW W).heap.size - 1, 0, none⟩) else vs k, fun k => if k = 5 then W.heap.size else lo k, v2, v3, rfl, Lib.hid (HN.out.step 5 (.pointer (some ⟨(ronewW W).heap.size - 1, 0, none⟩)) hsg.2.2 HB.out (fun _ => by simp [bV, ronewW, trnewW, frnewW, shnewW]) (fun _ => ⟨Nat.le_of_eq hsg.2.1.symm, hsg.1⟩)), Lib.hid (HT.out.early 5 (by decide) HNN.out (fun h => by cases h) (fun h => by cases h)), Lib.hid (blk_below HX2.out hsg.2.2), Lib.hid (Nat.le_trans HB.out hsg.2.2.size)⟩
    · refine wpOp_step rfl (fun K hK => ?_)
      go_simp
      exact hK _ _ ⟨fun k => if k = 6 then .pointer (some ⟨w.heap.size, 2, none⟩) else vs k, fun k => if k = 6 then W.heap.size else lo k, v2, v3, rfl, Lib.hid (HN.out.step 6 (.pointer (some ⟨w.heap.size, 2, none⟩)) (Below.refl _ _) HB.out (fun _ => rfl) (fun _ => ⟨Nat.le_refl _, Seg.nil _ _⟩)), Lib.hid (HT.out.early 6 (by decide) HNN.out (fun h => by cases h) (fun h => by cases h)), HX2, HB⟩
    · have d6 : l.getD 6 false = true := by simpa [Region.binds] using h3
      have e6 : vs 6 = .pointer (some ⟨w.heap.size, 2, none⟩) := (HN.out.part 6 (by decide) d6).1
      obtain ⟨x0, x1, x2, x3, x4⟩ := cfcell HX2.out
      refine wpOp_step rfl (fun K hK => ?_)
      go_simp
      exact hK _ _ ⟨fun k => if k = 7 then .int .i64 20 else vs k, fun k => if k = 7 then W.heap.size else lo k, v2, v3, (by rw [← e6]; rfl), Lib.hid (HN.out.step 7 (.int .i64 20) (Below.refl _ _) HB.out (fun _ => rfl) (fun _ => ⟨Nat.le_refl _, Seg.nil _ _⟩)), Lib.hid (HT.out.early 7 (by decide) HNN.out (fun _ => d6) (fun h => by cases h)), HX2, HB⟩
    · have d7 : l.getD 7 false = true := by simp [Region.binds] at h3; rw [Array.getD_eq_getD_getElem?]; exact h3.1
      have e7 : vs 7 = .int .i64 20 := (HN.out.part 7 (by decide) d7).1
      refine wpOp_step rfl (fun K hK => ?_)
      go_simp
      refine (renew_calls).mono ?_
      rintro e w1 ⟨rfl, rfl⟩
      go_simp
      have hsg := wAll_seg W (bL 8 W.heap.size)
      have he : renewW W = wAll W (bL 8 W.heap.size) := by simp [renewW, wAll, bL, mp0, cl]
      rw [← he] at hsg
      exact hK _ _ ⟨fun k => if k = 8 then .pointer (some ⟨(renewW W).heap.size - 1, 0, none⟩) else vs k, fun k => if k = 8 then W.heap.size else lo k, v2, v3, (by rw [← e7]; rfl), Lib.hid (HN.out.step 8 (.pointer (some ⟨(renewW W).heap.size - 1, 0, none⟩)) hsg.2.2 HB.out (fun _ => by simp [bV, renewW]) (fun _ => ⟨Nat.le_of_eq hsg.2.1.symm, hsg.1⟩)), Lib.hid (HT.out.early 8 (by decide) HNN.out (fun h => by cases h) (fun _ => d7)), Lib.hid (blk_below HX2.out hsg.2.2), Lib.hid (Nat.le_trans HB.out hsg.2.2.size)⟩
    · refine wpOp_step rfl (fun K hK => ?_)
      go_simp
      refine (winew_calls).mono ?_
      rintro e w1 ⟨rfl, rfl⟩
      go_simp
      have hsg := wAll_seg W (bL 9 W.heap.size)
      have he : winewW W = wAll W (bL 9 W.heap.size) := by simp [winewW, tmnewW, wAll, bL, mp0, cl]
      rw [← he] at hsg
      exact hK _ _ ⟨fun k => if k = 9 then .pointer (some ⟨(winewW W).heap.size - 1, 0, none⟩) else vs k, fun k => if k = 9 then W.heap.size else lo k, v2, v3, rfl, Lib.hid (HN.out.step 9 (.pointer (some ⟨(winewW W).heap.size - 1, 0, none⟩)) hsg.2.2 HB.out (fun _ => by simp [bV, winewW, tmnewW]) (fun _ => ⟨Nat.le_of_eq hsg.2.1.symm, hsg.1⟩)), Lib.hid (HT.out.early 9 (by decide) HNN.out (fun h => by cases h) (fun h => by cases h)), Lib.hid (blk_below HX2.out hsg.2.2), Lib.hid (Nat.le_trans HB.out hsg.2.2.size)⟩
    · refine wpOp_step rfl (fun K hK => ?_)
      go_simp
      refine (tmnew_calls).mono ?_
      rintro e w1 ⟨rfl, rfl⟩
      go_simp
      have hsg := wAll_seg W (bL 10 W.heap.size)
      have he : tmnewW W = wAll W (bL 10 W.heap.size) := by simp [tmnewW, wAll, bL, mp0, cl]
      rw [← he] at hsg
      exact hK _ _ ⟨fun k => if k = 10 then .pointer (some ⟨(tmnewW W).heap.size - 1, 0, none⟩) else vs k, fun k => if k = 10 then W.heap.size else lo k, v2, v3, rfl, Lib.hid (HN.out.step 10 (.pointer (some ⟨(tmnewW W).heap.size - 1, 0, none⟩)) hsg.2.2 HB.out (fun _ => by simp [bV, tmnewW]) (fun _ => ⟨Nat.le_of_eq hsg.2.1.symm, hsg.1⟩)), Lib.hid (HT.out.early 10 (by decide) HNN.out (fun h => by cases h) (fun h => by cases h)), Lib.hid (blk_below HX2.out hsg.2.2), Lib.hid (Nat.le_trans HB.out hsg.2.2.size)⟩
    · have dd : ∀ i, i < 11 → l.getD i false = true := by
        simp [Region.binds] at h3
        have g : ∀ k, l[k]?.getD false = true → l.getD k false = true := fun k hk => by rw [Array.getD_eq_getD_getElem?]; exact hk
        obtain ⟨g0, g1, g2, g3, g4, g5, g8, g9, g10⟩ := h3
        have f8 := g _ g8
        have f7 := HT.out.t8 f8
        have f6 := HT.out.t7 f7
        intro i hi
        rcases (show i = 0 ∨ i = 1 ∨ i = 2 ∨ i = 3 ∨ i = 4 ∨ i = 5 ∨ i = 6 ∨ i = 7 ∨ i = 8 ∨ i = 9 ∨ i = 10 by omega) with rfl | rfl | rfl | rfl | rfl | rfl | rfl | rfl | rfl | rfl | rfl
        · exact g _ g0
        · exact g _ g1
        · exact g _ g2
        · exact g _ g3
        · exact g _ g4
        · exact g _ g5
        · exact f6
        · exact f7
        · exact f8
        · exact g _ g9
        · exact g _ g10
      have e := fun i hi => (HN.out.part i hi (dd i hi)).1
      have e0 := e 0 (by decide)
      have e1 := e 1 (by decide)
      have e2 := e 2 (by decide)
      have e3 := e 3 (by decide)
      have e4 := e 4 (by decide)
      have e5 := e 5 (by decide)
      have e8 := e 8 (by decide)
      have e9 := e 9 (by decide)
      have e10 := e 10 (by decide)
      simp only [bV] at e0 e1 e2 e3 e4 e5 e8 e9 e10
      clear e
      have DD := Lib.hid dd
      clear dd h3
      refine wpOp_step rfl (fun K hK => ?_)
      go_simp
      exact hK _ _ ⟨fun k => if k = 11 then .agg (bC lo) else vs k, fun k => if k = 11 then W.heap.size else lo k, v2, v3, (by simp [e0, e1, e2, e3, e4, e5, e8, e9, e10, bC]), Lib.hid (HN.out.step 11 (.agg (bC lo)) (Below.refl _ _) HB.out (fun h => by cases (show False by omega)) (fun h => by cases (show False by omega))), Lib.hid ⟨fun _ => ⟨fun i hi => getD_put (DD.out i hi), rfl⟩, fun h => absurd (HT.out.t12 (getD_ne h (by decide))).1 HNN.out, fun h => absurd (HT.out.t12 (HT.out.t13 (getD_ne h (by decide))).1).1 HNN.out, fun h => HT.out.t14 (getD_ne h (by decide)), fun h => getD_put (HT.out.t7 (getD_ne h (by decide))), fun h => getD_put (HT.out.t8 (getD_ne h (by decide)))⟩, HX2, HB⟩
    · have d11 : l.getD 11 false = true := by simpa [Region.binds] using h3
      have e11 := (HT.out.t11 d11).2
      have D11 := Lib.hid d11
      clear h3 d11
      unfold bC at e11
      have hba := (Below.refl W.heap.size W).alloc (Nat.le_refl _) (cl (bC lo) 111)
      refine wpOp_step rfl (fun K hK => ?_)
      go_simp
      exact hK _ _ ⟨fun k => if k = 12 then .pointer (some ⟨W.heap.size, 0, none⟩) else vs k, fun k => if k = 12 then W.heap.size else lo k, v2, v3, (by rw [← e11]; rfl), Lib.hid (HN.out.step 12 _ hba HB.out (fun h => by cases (show False by omega)) (fun h => by cases (show False by omega))), Lib.hid ⟨fun _ => ⟨fun i hi => getD_put ((HT.out.t11 D11.out).1 i hi), (HT.out.t11 D11.out).2⟩, fun h => ⟨getD_put D11.out, W.heap.size, rfl, heap_alloc_new _ _, HB.out, fun i hi => by have h1 := (HN.out.part i hi ((HT.out.t11 D11.out).1 i hi)).2.2.1; have hne : ¬ i = 12 := (by omega); rw [if_neg hne]; exact h1⟩, fun h => absurd (HT.out.t13 (getD_ne h (by decide))).1 HNN.out, fun h => HT.out.t14 (getD_ne h (by decide)), fun h => getD_put (HT.out.t7 (getD_ne h (by decide))), fun h => getD_put (HT.out.t8 (getD_ne h (by decide)))⟩, Lib.hid (blk_below HX2.out hba), Lib.hid (Nat.le_trans HB.out hba.size)⟩
    · have d12 : l.getD 12 false = true := by simp [Region.binds] at h3; rw [Array.getD_eq_getD_getElem?]; exact h3.1
      refine wpOp_step rfl (fun K hK => ?_)
      go_simp
      exact hK _ _ ⟨fun k => if k = 13 then undef else vs k, fun k => if k = 13 then W.heap.size else lo k, vs 12, v3, rfl, Lib.hid (HN.out.step 13 _ (Below.refl _ _) HB.out (fun h => by cases (show False by omega)) (fun h => by cases (show False by omega))), Lib.hid ⟨fun h => ⟨fun i hi => getD_put ((HT.out.t11 (getD_ne h (by decide))).1 i hi), (HT.out.t11 (getD_ne h (by decide))).2⟩, fun h => by
        obtain ⟨h1, hb, h2, h3, h4, h5⟩ := HT.out.t12 (getD_ne h (by decide))
        exact ⟨getD_put h1, hb, h2, h3, h4, fun i hi => (by have hne : ¬ i = 13 := (by omega); rw [if_neg hne]; exact h5 i hi)⟩, fun _ => ⟨getD_put d12, rfl⟩, fun h => HT.out.t14 (getD_ne h (by decide)), fun h => getD_put (HT.out.t7 (getD_ne h (by decide))), fun h => getD_put (HT.out.t8 (getD_ne h (by decide)))⟩, HX2, HB⟩
    · clear h3
      refine wpOp_step rfl (fun K hK => ?_)
      go_simp
      exact hK _ _ ⟨fun k => if k = 14 then undef else vs k, fun k => if k = 14 then W.heap.size else lo k, v2, .int .i64 0, rfl, Lib.hid (HN.out.step 14 _ (Below.refl _ _) HB.out (fun h => by cases (show False by omega)) (fun h => by cases (show False by omega))), Lib.hid ⟨fun h => ⟨fun i hi => getD_put ((HT.out.t11 (getD_ne h (by decide))).1 i hi), (HT.out.t11 (getD_ne h (by decide))).2⟩, fun h => by
        obtain ⟨h1, hb, h2, h3, h4, h5⟩ := HT.out.t12 (getD_ne h (by decide))
        exact ⟨getD_put h1, hb, h2, h3, h4, fun i hi => (by have hne : ¬ i = 14 := (by omega); rw [if_neg hne]; exact h5 i hi)⟩, fun h => ⟨getD_put (HT.out.t13 (getD_ne h (by decide))).1, (HT.out.t13 (getD_ne h (by decide))).2⟩, fun _ => rfl, fun h => getD_put (HT.out.t7 (getD_ne h (by decide))), fun h => getD_put (HT.out.t8 (getD_ne h (by decide)))⟩, HX2, HB⟩
end Go.Proofs.YtbfgpkogginmjaaGreatDoor
end

/- Parts of a proof about aliases: H2. -/
import Derived.Test.YtbfgpkogginmjaaGreatDoorZ41
section
namespace Go.Proofs.YtbfgpkogginmjaaGreatDoor
open Go.RowKit Go.Lib Go.Proofs.YtbfgpkogginmjaaGreatDoorW.PrintWords Go.Proofs.YtbfgpkogginmjaaGreatDoor.PSwitchboardGreat
set_option linter.unusedSectionVars false
variable [BS : LawBase]
set_option linter.unusedVariables false
set_option linter.unusedSimpArgs false
theorem Held.move_cons {w w' : World} {M : List (Nat × Obj)} {a b : Nat} {o o' : Obj} (h : Held w ((a, o) :: M)) (hc : Chg (fun k => k = a) w w') (hb : b = a ∨ w.heap.size ≤ b) (ho : w'.heap[b]? = some o') : Held w' ((b, o') :: M) := by
  have hnd : ((a, o) :: M).map Prod.fst = a :: M.map Prod.fst := rfl
  have hn := h.nd
  rw [hnd, List.nodup_cons] at hn
  refine ⟨fun p hp => ?_, ?_, h.fr.chg hc⟩
  · rcases List.mem_cons.1 hp with rfl | hp
    · exact ho
    · have hpm : p ∈ (a, o) :: M := List.mem_cons_of_mem _ hp
      refine (hc.block _ (h.lt p hpm) (fun e => ?_)).trans (h.at_ p hpm)
      exact hn.1 (List.mem_map.2 ⟨p, hp, e⟩)
  · show (b :: M.map Prod.fst).Nodup
    refine List.nodup_cons.2 ⟨fun hm => ?_, hn.2⟩
    rcases hb with rfl | hb
    · exact hn.1 hm
    · obtain ⟨p, hp, e⟩ := List.mem_map.1 hm
      have := h.lt p (List.mem_cons_of_mem _ hp)
      omega
theorem Held.move {w w' : World} {L M : List (Nat × Obj)} {a b : Nat} {o o' : Obj} (h : Held w (L ++ (a, o) :: M)) (hc : Chg (fun k => k = a) w w') (hb : b = a ∨ w.heap.size ≤ b) (ho : w'.heap[b]? = some o') : Held w' (L ++ (b, o') :: M) :=
  ((h.perm List.perm_middle).move_cons hc hb ho).perm List.perm_middle.symm
def restB (w : World) : List (Nat × Obj) := (List.range (w.heap.size - 1)).map (fun k => (k + 1, (w.heap[k + 1]?).getD (.map #[] 0)))
theorem restB_mem {w : World} {k : Nat} (h0 : 0 < k) (hk : k < w.heap.size) : (k, (w.heap[k]?).getD (.map #[] 0)) ∈ restB w := by
  unfold restB
  refine List.mem_map.2 ⟨k - 1, List.mem_range.2 (by omega), ?_⟩
  rw [show k - 1 + 1 = k by omega]
theorem restB_fst (w : World) : (restB w).map Prod.fst = (List.range (w.heap.size - 1)).map (· + 1) := by
  unfold restB
  rw [List.map_map]
  rfl
theorem all_held {w : World} (hf : Fr w) {o : Obj} (h0 : w.heap[0]? = some o) : Held w ((0, o) :: restB w) := by
  refine ⟨fun p hp => ?_, ?_, hf⟩
  · rcases List.mem_cons.1 hp with rfl | hp
    · exact h0
    · obtain ⟨k, hk, rfl⟩ := List.mem_map.1 hp
      have hk := List.mem_range.1 hk
      have : k + 1 < w.heap.size := by omega
      show w.heap[k + 1]? = some ((w.heap[k + 1]?).getD _)
      rw [Array.getElem?_eq_getElem this]
      rfl
  · show (0 :: (restB w).map Prod.fst).Nodup
    rw [restB_fst]
    refine List.nodup_cons.2 ⟨fun hm => ?_, ?_⟩
    · obtain ⟨k, _, e⟩ := List.mem_map.1 hm
      have e : k + 1 = 0 := e
      omega
    · exact List.Pairwise.map _ (fun a b (hab : a ≠ b) => show a + 1 ≠ b + 1 by omega) List.nodup_range
theorem held_below {w w' : World} {L : List (Nat × Obj)} {o : Obj} (hf : Fr w) (h0 : w.heap[0]? = some o) (h : Held w' L) (hL0 : (0, o) ∈ L) (hL : ∀ p ∈ restB w, p ∈ L) : Below w.heap.size w w' := by
  have hblk : ∀ k, k < w.heap.size → w'.heap[k]? = w.heap[k]? := by
    intro k hk
    rcases Nat.eq_zero_or_pos k with rfl | hp
    · rw [h0]
      exact h.at_ _ hL0
    · have h1 := h.at_ _ (hL _ (restB_mem hp hk))
      have h2 : w'.heap[k]? = some ((w.heap[k]?).getD (.map #[] 0)) := h1
      rw [h2, Array.getElem?_eq_getElem hk]
      rfl
  refine ⟨h.fr.os.trans hf.os.symm, h.fr.tape.trans hf.tape.symm, h.fr.output.trans hf.output.symm, ?_, hblk⟩
  rcases Nat.eq_zero_or_pos w.heap.size with hz | hz
  · omega
  · have h1 := hblk (w.heap.size - 1) (by omega)
    rw [Array.getElem?_eq_getElem (show w.heap.size - 1 < w.heap.size by omega)] at h1
    have h2 := (Array.getElem?_eq_some_iff.1 h1).1
    omega
def WR (w : World) (v : Value) (b : Nat) (cur : Array Value) (ns : List ByteArray) : Prop := w.heap[b]? = some (.cells cur 9 (0, 0)) ∧ v.ownBlock = some b ∧ Kd.string.R 9 w 0 (fun _ => True) v ns
theorem WR.to {w w' : World} {v : Value} {b : Nat} {cur : Array Value} {ns : List ByteArray} (h : WR w v b cur ns) (hb : w'.heap[b]? = some (.cells cur 9 (0, 0))) : WR w' v b cur ns := by
  obtain ⟨h1, h2, h0, inner, ho, hr⟩ := h
  refine ⟨hb, h2, h0, inner, own_move ho (fun k hk => ?_), hr.imp_ (fun _ _ hp => hp)⟩
  rw [h2] at hk
  obtain rfl := Option.some.inj hk
  rw [hb, h1]
theorem WR.grown {w w' : World} {v v1 : Value} {b : Nat} {cur : Array Value} {ns ns1 : List ByteArray} {L M : List (Nat × Obj)} (h : WR w v b cur ns) (hH : Held w (L ++ (b, .cells cur 9 (0, 0)) :: M)) (hr : Kd.string.R 9 w' 0 (fun _ => True) v1 ns1) (hg : w.grownBy w' v.ownBlock) (hat : v1.ownBlock = v.ownBlock ∨ ∃ b, v1.ownBlock = some b ∧ w.heap.size ≤ b) : ∃ b1 cur1, WR w' v1 b1 cur1 ns1 ∧ Held w' (L ++ (b1, .cells cur1 9 (0, 0)) :: M) := by
  have hc := Chg.of_grown (S := fun k => k = b) hg (fun k hk => by rw [h.2.1] at hk; exact (Option.some.inj hk).symm)
  have hb1 : ∃ b1, v1.ownBlock = some b1 ∧ (b1 = b ∨ w.heap.size ≤ b1) := by
    rcases hat with hat | ⟨b1, h1, h2⟩
    · exact ⟨b, hat.trans h.2.1, .inl rfl⟩
    · exact ⟨b1, h1, .inr h2⟩
  obtain ⟨b1, h1, h2⟩ := hb1
  obtain ⟨cur1, h3⟩ := ro_row (d := Kd.string) rfl hr b1 h1
  exact ⟨b1, cur1, ⟨h3, h1, hr⟩, hH.move hc h2 h3⟩
end Go.Proofs.YtbfgpkogginmjaaGreatDoor
end

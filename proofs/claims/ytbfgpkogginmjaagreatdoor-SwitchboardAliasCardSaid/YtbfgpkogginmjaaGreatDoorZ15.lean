/- Parts of a proof about aliases: I1. -/
import Derived.RegionTactic
import Derived.RowKit
section
namespace Go.Proofs.YtbfgpkogginmjaaGreatDoor
open Go.RowKit
set_option linter.unusedVariables false
set_option linter.unusedSimpArgs false
section
variable {P : Program} {ops : Array Oper} {Q : Exit → Act → World → Prop} {md : Region.Mode} {J : Array Bool → Act → World → Prop}
def left (l : Array Bool) : Nat := (l.toList.filter (fun b => !b)).length
theorem ready_mem {l : Array Bool} {i : Nat} (h : i ∈ Region.ready md ops l) : i < ops.size ∧ l.getD i true = false ∧ (((ops[i]?).map (·.after.all fun e => !Region.binds md e || l.getD e.on false)).getD false) = true := by
  unfold Region.ready at h
  rw [List.mem_filter, List.mem_range] at h
  obtain ⟨h1, h2⟩ := h
  rw [Bool.and_eq_true] at h2
  exact ⟨h1, by simpa using h2.1, h2.2⟩
theorem left_set : ∀ (l : List Bool) (i : Nat), l[i]? = some false → ((l.set i true).filter (fun b => !b)).length + 1 = (l.filter (fun b => !b)).length
  | [], i, h => by simp at h
  | b :: l, 0, h => by
    simp at h
    subst h
    simp
  | b :: l, i + 1, h => by
    have h2 := left_set l i (by simpa using h)
    cases b <;> simp [List.filter_cons] at h2 ⊢ <;> omega
theorem left_0 {l : List Bool} (h : (l.filter (fun b => !b)).length = 0) (i : Nat) (hi : i < l.length) : l[i]? = some true := by
  have h1 : l.filter (fun b => !b) = [] := List.length_eq_zero_iff.1 h
  rw [List.filter_eq_nil_iff] at h1
  have h2 := h1 l[i] (List.getElem_mem hi)
  rw [List.getElem?_eq_getElem hi]
  simpa using h2
theorem wpAny_inv (hstep : ∀ l a w i, l.size = ops.size → J l a w → i ∈ Region.ready md ops l → wpOp P ops Q i (J (l.setIfInBounds i true)) a w)
    (hdone : ∀ l a w, l.size = ops.size → J l a w → Region.ready md ops l = [] → Q .normal a w) :
    ∀ (fuel : Nat) (l : Array Bool) (a : Act) (w : World), l.size = ops.size → left l ≤ fuel → J l a w → wpAny P md ops Q fuel l a w
  | 0, l, a, w, hs, hl, hJ => by
    have hr : Region.ready md ops l = [] := by
      refine List.eq_nil_iff_forall_not_mem.2 (fun i hi => ?_)
      obtain ⟨h1, h2, _⟩ := ready_mem hi
      have h3 := left_0 (l := l.toList) (by unfold left at hl; omega) i (by rw [Array.length_toList]; omega)
      rw [Array.getElem?_toList] at h3
      rw [Array.getD_eq_getD_getElem?, h3] at h2
      cases h2
    exact ⟨hr, hdone l a w hs hJ hr⟩
  | fuel + 1, l, a, w, hs, hl, hJ => by
    refine ⟨fun hr => hdone l a w hs hJ hr, fun i hi => ?_⟩
    refine wpOp_mono (fun a' w' hJ' => ?_) (hstep l a w i hs hJ hi)
    refine wpAny_inv hstep hdone fuel _ a' w' (by rw [Array.size_setIfInBounds]; exact hs) ?_ hJ'
    obtain ⟨h1, h2, _⟩ := ready_mem hi
    have h3 : l.toList[i]? = some false := by
      rw [Array.getElem?_toList]
      rw [Array.getD_eq_getD_getElem?] at h2
      cases h4 : l[i]? with
      | none => rw [h4] at h2; cases h2
      | some b => rw [h4] at h2; rw [show b = false from h2]
    have h5 := left_set l.toList i h3
    unfold left at hl ⊢
    rw [Array.toList_setIfInBounds]
    omega
theorem ready_all {l : Array Bool} (hd : ∀ i, i < ops.size → ((ops[i]?).map (·.after.all fun e => decide (e.on < i))).getD true = true) (hs : l.size = ops.size) (hr : Region.ready md ops l = []) : ∀ i, i < ops.size → l.getD i false = true := by
  intro i
  induction i using Nat.strongRecOn with
  | _ i ih =>
    intro hi
    by_cases hl : l.getD i false = true
    · exact hl
    · exfalso
      have hm : i ∈ Region.ready md ops l := by
        unfold Region.ready
        rw [List.mem_filter, List.mem_range]
        refine ⟨hi, ?_⟩
        have h1 : l.getD i true = false := by
          rw [Array.getD_eq_getD_getElem?] at hl ⊢
          rw [Array.getElem?_eq_getElem (by omega)] at hl ⊢
          simpa using hl
        rw [h1]
        have h2 := hd i hi
        rw [Array.getElem?_eq_getElem hi] at h2 ⊢
        simp only [Option.map_some, Option.getD_some, Bool.not_false, Bool.true_and] at h2 ⊢
        rw [Array.all_eq_true'] at h2 ⊢
        intro e he
        have h3 := of_decide_eq_true (h2 e he)
        rw [ih e.on h3 (by omega)]
        simp
      rw [hr] at hm
      cases hm
end
end Go.Proofs.YtbfgpkogginmjaaGreatDoor
end

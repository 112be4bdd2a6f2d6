/- Parts of a proof about aliases: H1. -/
import Derived.Laws.IdiomMaps
import Derived.MapKept
import Derived.ChangeMaps
import Derived.Test.YtbfgpkogginmjaaGreatDoorZ13
section
namespace Go.Proofs.YtbfgpkogginmjaaGreatDoor
open Go Go.Lib
set_option linter.unusedSimpArgs false
set_option linter.unusedVariables false
def amL : Nat → List (Nat × ByteArray) → List MapEntry
  | _, [] => []
  | k, (a, s) :: L => ⟨.int .u32 (a : Nat), .string s, k⟩ :: amL (k + 1) L
def amO (L : List (Nat × ByteArray)) : Obj := .map (amL 0 L).toArray L.length
def lk : List (Nat × ByteArray) → Nat → Nat → Option (Nat × ByteArray)
  | [], _, _ => none
  | (b, s) :: L, a, i => if a = b then some (i, s) else lk L a (i + 1)
def ptL : List (Nat × ByteArray) → Nat → ByteArray → List (Nat × ByteArray)
  | [], a, s => [(a, s)]
  | (b, t) :: L, a, s => if a = b then (b, s) :: L else (b, t) :: ptL L a s
def gtL : List (Nat × ByteArray) → Nat → Option ByteArray
  | [], _ => none
  | (b, s) :: L, a => if a = b then some s else gtL L a
theorem lk_gt : ∀ (L : List (Nat × ByteArray)) (a i : Nat), (lk L a i).map (·.2) = gtL L a
  | [], a, i => rfl
  | (b, s) :: L, a, i => by
    simp only [lk, gtL]
    split
    · rfl
    · exact lk_gt L a (i + 1)
theorem am_find : ∀ (L : List (Nat × ByteArray)) (a k i : Nat), Instr.findNow (.int .u32) (.int .u32 (a : Nat)) (amL k L) i = some ((lk L a i).map fun p => (p.1, .string p.2))
  | [], a, k, i => rfl
  | (b, s) :: L, a, k, i => by
    simp only [amL, Instr.findNow, Instr.sameNow, lk, if_true]
    by_cases h : a = b
    · subst h
      simp
    · have : ((a : Int) == (b : Int)) = false := by
        rw [beq_eq_false_iff_ne]
        omega
      rw [this, if_neg h]
      exact am_find L a (k + 1) (i + 1)
theorem lk_ge : ∀ (L : List (Nat × ByteArray)) (a i j : Nat) (s : ByteArray), lk L a i = some (j, s) → i ≤ j
  | [], a, i, j, s, h => by cases h
  | (b, t) :: L, a, i, j, s, h => by
    simp only [lk] at h
    split at h
    · injection h with h; injection h with h1 h2; omega
    · have := lk_ge L a (i + 1) j s h
      omega
theorem am_put_old : ∀ (L : List (Nat × ByteArray)) (a k i j : Nat) (s0 s : ByteArray), lk L a i = some (i + j, s0) → amL k (ptL L a s) = (amL k L).modify j (fun e => { e with key := .int .u32 (a : Nat), val := .string s }) ∧ (ptL L a s).length = L.length ∧ ((amL k L)[j]?).map (·.key) = some (.int .u32 (a : Nat))
  | [], a, k, i, j, s0, s, h => by cases h
  | (b, t) :: L, a, k, i, j, s0, s, h => by
    simp only [lk] at h
    simp only [ptL]
    by_cases hab : a = b
    · subst hab
      rw [if_pos rfl] at h
      rw [if_pos rfl]
      injection h with h; injection h with h1 h2
      have : j = 0 := by omega
      subst this
      exact ⟨rfl, rfl, rfl⟩
    · rw [if_neg hab] at h
      rw [if_neg hab]
      have hj := lk_ge _ _ _ _ _ h
      obtain ⟨j1, rfl⟩ : ∃ j1, j = j1 + 1 := ⟨j - 1, by omega⟩
      have h' : lk L a (i + 1) = some (i + 1 + j1, s0) := by rw [h]; congr 2; omega
      obtain ⟨h1, h2, h3⟩ := am_put_old L a (k + 1) (i + 1) j1 s0 s h'
      refine ⟨?_, by simp [h2], by simpa [amL] using h3⟩
      simp only [amL, List.modify_succ_cons, h1]
theorem am_put_new : ∀ (L : List (Nat × ByteArray)) (a k i : Nat) (s : ByteArray), lk L a i = none → amL k (ptL L a s) = amL k L ++ [⟨.int .u32 (a : Nat), .string s, k + L.length⟩] ∧ (ptL L a s).length = L.length + 1
  | [], a, k, i, s, h => ⟨rfl, rfl⟩
  | (b, t) :: L, a, k, i, s, h => by
    simp only [lk] at h
    simp only [ptL]
    by_cases hab : a = b
    · rw [if_pos hab] at h; cases h
    · rw [if_neg hab] at h
      rw [if_neg hab]
      obtain ⟨h1, h2⟩ := am_put_new L a (k + 1) (i + 1) s h
      refine ⟨?_, by simp [h2]⟩
      simp only [amL, h1, List.length_cons, List.cons_append]
      rw [show k + 1 + L.length = k + (L.length + 1) by omega]
variable {P : Program} {w : World} {b mt kt et : Nat}
theorem find_kP {es : Array MapEntry} {key : Value} {K : TypeDesc} {r : Option (Nat × Value)} (hk : P.underlying kt = some K) (hf : Instr.findNow K key es.toList 0 = some r) : (Instr.findKey kt key es.toList).run P w = .ok r w := by
  simp [Instr.findKey, run_underlying hk, hf, Result.andThen]
theorem am_put (ht : P.underlying mt = some (.map kt et)) (hk : P.underlying kt = some (.int .u32)) {L : List (Nat × ByteArray)} (hb : w.heap[b]? = some (amO L)) (a : Nat) (s : ByteArray) : (Instr.mapUpdate mt (.map (some b)) (.int .u32 (a : Nat)) (.string s)).run P w = .ok () (ChangeMaps.setBlock w b (amO (ptL L a s))) := by
  have hc : MapKept.IsKey (.int .u32) (.int .u32 (a : Nat)) := rfl
  have hck := fun e => MapKept.run_checkKey (w := w) hk hc e 9999
  have hf := am_find L a 0 0
  unfold amO at hb ⊢
  cases hl : lk L a 0 with
  | none =>
    rw [hl] at hf
    obtain ⟨h1, h2⟩ := am_put_new L a 0 0 s hl
    have hfk := find_kP (w := w) (es := (amL 0 L).toArray) hk (by simpa using hf)
    simp [Instr.mapUpdate, run_underlying ht, MapKept.run_getObj_map hb, hck, hfk, MapKept.run_setObj_map _ hb, Result.andThen, ChangeMaps.setBlock, h1, h2]
  | some p =>
    obtain ⟨j, s0⟩ := p
    rw [hl] at hf
    obtain ⟨h1, h2, h3⟩ := am_put_old L a 0 0 j s0 s (by rw [hl, Nat.zero_add])
    have hfk := find_kP (w := w) (es := (amL 0 L).toArray) hk (by simpa using hf)
    have hkk : (((amL 0 L).toArray[j]?).map (·.key)).getD (.int .u32 (a : Nat)) = .int .u32 (a : Nat) := by
      rw [List.getElem?_toArray, h3]; rfl
    simp [Instr.mapUpdate, run_underlying ht, MapKept.run_getObj_map hb, hck, hfk, MapKept.run_setObj_map _ hb, Result.andThen, ChangeMaps.setBlock, h1, h2]
    rw [h3]
    simp only [Option.getD_some, MapKept.run_keyThatStays hc]
    exact MapKept.run_setObj_map _ hb
theorem am_look (ht : P.underlying mt = some (.map kt et)) (hk : P.underlying kt = some (.int .u32)) (hz : (zeroValue et).run P w = .ok (.string ⟨#[]⟩) w) {L : List (Nat × ByteArray)} (hb : w.heap[b]? = some (amO L)) (a : Nat) (ok : Bool) : (Instr.lookup mt (.map (some b)) (.int .u32 (a : Nat)) ok).run P w = .ok (if ok then .tuple #[.string ((gtL L a).getD ⟨#[]⟩), .bool (gtL L a).isSome] else .string ((gtL L a).getD ⟨#[]⟩)) w := by
  have hc : MapKept.IsKey (.int .u32) (.int .u32 (a : Nat)) := rfl
  have hck := fun e => MapKept.run_checkKey (w := w) hk hc e 9999
  have hf := am_find L a 0 0
  have hg := lk_gt L a 0
  unfold amO at hb
  cases hl : lk L a 0 with
  | none =>
    rw [hl] at hf hg
    have hfk := find_kP (w := w) (es := (amL 0 L).toArray) hk (by simpa using hf)
    rw [← hg]
    simp [Instr.lookup, run_underlying ht, MapKept.run_getObj_map hb, hck, hfk, hz, Result.andThen]
  | some p =>
    rw [hl] at hf hg
    have hfk := find_kP (w := w) (es := (amL 0 L).toArray) hk (by simpa using hf)
    rw [← hg]
    simp [Instr.lookup, run_underlying ht, MapKept.run_getObj_map hb, hck, hfk, Result.andThen]
end Go.Proofs.YtbfgpkogginmjaaGreatDoor
end

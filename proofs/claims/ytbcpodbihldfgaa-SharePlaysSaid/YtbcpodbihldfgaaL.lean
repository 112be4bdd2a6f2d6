/- A slice that came in, read as a list of elements of any kind; members. -/
import Derived.Test.YtbcpodbihldfgaaPSharePlaysx0
import Derived.Deep.Slices
import Derived.SizedLaws
import Derived.ChangeSame
namespace Go.Proofs.Ytbcpodbihldfgaa
open Go.RowKit Go.Proofs.YtbcpodbihldfgaaW.PrintWords Go.Proofs.Ytbcpodbihldfgaa.PSharePlays
open Go.ChangeShapes Go.WideShapes Go.Deep
set_option linter.unusedVariables false

section
variable {H : Type} {enc : TypeId × Value → H} {P : Program} {W : World} {base : Nat} {sp : Nat → Bool} {held : Bool}
theorem cells_at {W : World} {base : Nat} : ∀ {n : Nat} {a : Addr} {cs : List Value}, W.cells? base a n = some cs → cs.length = n ∧ ∀ i u, cs[i]? = some u → W.cell? (a.add i) = some u := by
  intro n a cs h
  unfold World.cells? at h
  split at h
  · have hl := mapM_some_length h
    refine ⟨by simpa using hl, fun i u hu => ?_⟩
    have hi : i < cs.length := (List.getElem?_eq_some_iff.1 hu).1
    have hi' : i < n := by simp at hl; omega
    have := mapM_some_get h i i (by simp [hi'])
    rw [this, hu]
  · cases h

theorem C_of_trod {α : Type} (d : Kd α) (Pr : α → Prop) {t e : TypeId} {B : Nat} {A : Option Addr} {len cap : Nat} {dd : DataW H} {ps : List MemPlace} {ts : List TypeId} {ds : List (DataW H)} {j : Nat}
    (hu : P.underlying t = some (.slice e)) (hsz : P.cellsOf e = d.sz) (hB : P.bytesOf e = B)
    (hel : ∀ (n : Nat) (cs : List Value) (x : DataW H × List MemPlace), DataW.trod enc P W base sp held n e cs = some x → ∃ a : α, d.K W a cs ∧ Pr a)
    (hw : (DataW.weightsEach P ts ds).all (· ≤ reachBytes) = true) (ht : ts[j]? = some t) (hd : ds[j]? = some dd)
    (h : DataW.Trod enc P W base sp held t (.slice A len cap) dd ps) :
    ∃ l : List α, len = l.length ∧ d.C W A l.length l ∧ l.length ≤ cap ∧ (∀ a ∈ l, Pr a) ∧ l.length * B ≤ 140737488351232 := by
  classical
  obtain ⟨fuel, hf⟩ := h
  rcases open_slice hu hf with ⟨hcs, _⟩ | ⟨a, l, c, m, n, D, Pl, hcs, _, hl, hm, hmm, hx, hc⟩
  · simp [Value.cells] at hcs
    obtain ⟨rfl, rfl, rfl⟩ := hcs
    exact ⟨[], rfl, Kd.C_nil d W, by simp, by simp, by simp⟩
  · simp [Value.cells] at hcs
    obtain ⟨rfl, rfl, rfl⟩ := hcs
    obtain ⟨hx, _⟩ := Prod.mk.inj hx
    have hlm : len ≤ m := by rw [hmm]; split <;> omega
    have hne : ∀ i, i < len → ∃ x : α, Pr x ∧ ∃ cs, cs.length = d.sz ∧ d.K W x cs ∧ ∀ q u, cs[q]? = some u → W.cell? (a.add (i * d.sz + q)) = some u := by
      intro i hi
      obtain ⟨cs', h1, h2⟩ := hc i (by omega)
      rw [hsz] at h1
      obtain ⟨x, hK, hp⟩ := hel n cs' _ h2
      obtain ⟨hl1, hl2⟩ := cells_at h1
      exact ⟨x, hp, cs', hl1, hK, fun q u hq => by have := hl2 q u hq; rwa [Deep.add_add] at this⟩
    rcases Nat.eq_zero_or_pos len with h0 | h0
    · subst h0
      exact ⟨[], rfl, ⟨rfl, by simp, fun h => absurd h (Nat.lt_irrefl 0)⟩, by simp, by simp, by simp⟩
    · haveI : Inhabited α := ⟨Classical.choose (hne 0 h0)⟩
      obtain ⟨f, hfn⟩ := choose_lt hne
      have hlen : ((List.range len).map f).length = len := by simp
      refine ⟨(List.range len).map f, hlen.symm, ⟨rfl, by rw [hlen]; unfold maxLen at hm; omega, fun _ => ⟨a, rfl, fun i p hp => ?_⟩⟩, by rw [hlen]; exact hl, fun x hx => ?_, ?_⟩
      · have hi : i < len := by
          have := (List.getElem?_eq_some_iff.1 hp).1
          omega
        rw [List.getElem?_map, List.getElem?_range hi] at hp
        simp only [Option.map_some, Option.some.injEq] at hp
        subst hp
        obtain ⟨_, cs, h1, h2, h3⟩ := hfn i hi
        exact ⟨cs, h1, h2, h3⟩
      · obtain ⟨i, hi, rfl⟩ := List.mem_map.1 hx
        exact (hfn i (List.mem_range.1 hi)).1
      · rw [hlen]
        have hd' := hd
        rw [hx] at hd'
        have z := sized_slice hw ht hd' hu
        rw [hB] at z
        refine Nat.le_trans ?_ z
        refine Nat.mul_le_mul_right _ ?_
        simp only [List.length_map, List.length_range]
        omega
end

section
variable {H : Type} {enc : TypeId × Value → H} {W : World} {base : Nat} {sp : Nat → Bool} {held : Bool}
/-- A member that came in. -/
theorem mem_of_trod (n : Nat) (cs : List Value) (x : DataW H × List MemPlace) (h : DataW.trod enc Try.prog W base sp held n 33 cs = some x) : ∃ a : S33, k33.K W a cs ∧ a.f0.size ≤ maxLen := by
  obtain ⟨y0, y1, m, _, hl, h0, h1⟩ := trod_struct2 Try.underlying33 h
  have e1 : Try.prog.cellsOf 33 = 2 := by kernel_rfl
  have e2 : Try.prog.cellsOf 9 = 1 := by kernel_rfl
  have e3 : Try.prog.cellsOf 4 = 1 := by kernel_rfl
  rw [e1] at hl
  match cs, hl with
  | [c0, c1], _ =>
    simp only [e2, e3, List.drop_zero, List.take_succ_cons, List.take_zero, List.drop_succ_cons] at h0 h1
    obtain ⟨s, hs, _, hsz⟩ := DataW.trod_string Try.underlying9 h0
    obtain ⟨b, hb, _⟩ := DataW.trod_bool Try.underlying4 h1
    cases hs; cases hb
    exact ⟨⟨s, b⟩, k33_mk W ⟨s, b⟩, hsz⟩
theorem open_mems {A : Option Addr} {len cap : Nat} {dd : DataW H} {ps : List MemPlace} {ts : List TypeId} {ds : List (DataW H)} (hw : (DataW.weightsEach Try.prog ts ds).all (· ≤ reachBytes) = true) {j : Nat} (ht : ts[j]? = some 22) (hd : ds[j]? = some dd)
    (h : DataW.Trod enc Try.prog W base sp held 22 (.slice A len cap) dd ps) :
    ∃ l : List S33, len = l.length ∧ Kd.C k33 W A l.length l ∧ l.length ≤ cap ∧ (∀ a ∈ l, a.f0.size ≤ maxLen) ∧ l.length * 24 ≤ 140737488351232 :=
  C_of_trod k33 (fun a => a.f0.size ≤ maxLen) Try.underlying22 (by kernel_rfl) (by kernel_rfl) mem_of_trod hw ht hd h
end
end Go.Proofs.Ytbcpodbihldfgaa

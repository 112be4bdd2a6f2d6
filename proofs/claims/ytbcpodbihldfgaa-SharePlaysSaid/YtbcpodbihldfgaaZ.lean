/- A call that came in: a row of them. -/
import Derived.Test.YtbcpodbihldfgaaL
import Derived.Test.YtbcpodbihldfgaaYa
import Derived.Lib.SmallJoins
namespace Go.Proofs.Ytbcpodbihldfgaa
open Go.RowKit Go.Maps Go.Proofs.YtbcpodbihldfgaaW.PrintWords Go.Proofs.Ytbcpodbihldfgaa.PSharePlays
open Go.ChangeShapes Go.WideShapes Go.Deep
set_option linter.unusedVariables false
section
variable {H : Type} {enc : TypeId × Value → H} {P : Program} {W : World} {base : Nat} {sp : Nat → Bool} {held : Bool}
theorem C_of_trod' {α : Type} (d : Kd α) (Pr : α → Prop) {t e : TypeId} {A : Option Addr} {len cap fuel : Nat} {x : DataW H × List MemPlace}
    (hu : P.underlying t = some (.slice e)) (hsz : P.cellsOf e = d.sz)
    (hel : ∀ (n : Nat) (cs : List Value) (x : DataW H × List MemPlace), DataW.trod enc P W base sp held n e cs = some x → ∃ a : α, d.K W a cs ∧ Pr a)
    (hf : DataW.trod enc P W base sp held fuel t [.slice A len cap] = some x) :
    ∃ l : List α, len = l.length ∧ d.C W A l.length l ∧ l.length ≤ cap ∧ (∀ a ∈ l, Pr a) := by
  classical
  rcases open_slice hu hf with ⟨hcs, _⟩ | ⟨a, l, c, m, n, D, Pl, hcs, _, hl, hm, hmm, hx, hc⟩
  · simp at hcs
    obtain ⟨rfl, rfl, rfl⟩ := hcs
    exact ⟨[], rfl, Kd.C_nil d W, by simp, by simp⟩
  · simp at hcs
    obtain ⟨rfl, rfl, rfl⟩ := hcs
    have hne : ∀ i, i < len → ∃ x : α, Pr x ∧ ∃ cs, cs.length = d.sz ∧ d.K W x cs ∧ ∀ q u, cs[q]? = some u → W.cell? (a.add (i * d.sz + q)) = some u := by
      intro i hi
      have hlm : len ≤ m := by rw [hmm]; split <;> omega
      obtain ⟨cs', h1, h2⟩ := hc i (by omega)
      rw [hsz] at h1
      obtain ⟨x, hK, hp⟩ := hel n cs' _ h2
      obtain ⟨hl1, hl2⟩ := cells_at h1
      exact ⟨x, hp, cs', hl1, hK, fun q u hq => by have := hl2 q u hq; rwa [Deep.add_add] at this⟩
    rcases Nat.eq_zero_or_pos len with h0 | h0
    · subst h0
      exact ⟨[], rfl, ⟨rfl, by simp, fun h => absurd h (Nat.lt_irrefl 0)⟩, by simp, by simp⟩
    · haveI : Inhabited α := ⟨Classical.choose (hne 0 h0)⟩
      obtain ⟨f, hfn⟩ := choose_lt hne
      have hlen : ((List.range len).map f).length = len := by simp
      refine ⟨(List.range len).map f, hlen.symm, ⟨rfl, by rw [hlen]; unfold maxLen at hm; omega, fun _ => ⟨a, rfl, fun i p hp => ?_⟩⟩, by rw [hlen]; exact hl, fun x hx => ?_⟩
      · have hi : i < len := by
          have := (List.getElem?_eq_some_iff.1 hp).1
          omega
        rw [List.getElem?_map, List.getElem?_range hi] at hp
        simp only [Option.map_some, Option.some.injEq] at hp
        subst hp
        obtain ⟨_, cs, h1, h2, h3⟩ := hfn i hi
        exact ⟨cs, h1, h2, h3⟩
      · obtain ⟨i, hi, rfl⟩ := List.mem_map.1 hx
        exact (hfn i (List.mem_range.1 hi)).1
end
section
variable {H : Type} {enc : TypeId × Value → H} {W : World} {base : Nat} {sp : Nat → Bool} {held : Bool}
def actOk (a : SAct) : Prop := a.grp.size ≤ maxLen ∧ ∀ m ∈ a.l, m.f0.size ≤ maxLen
theorem act_of_trod (n : Nat) (cs : List Value) (x : DataW H × List MemPlace) (h : DataW.trod enc Try.prog W base sp held n 49 cs = some x) : ∃ a : SAct, kA.K W a cs ∧ actOk a := by
  obtain ⟨y0, y1, y2, y3, m, _, hl, h0, h1, h2, h3⟩ := Joins.trod_struct4 Try.underlying49 h
  have e1 : Try.prog.cellsOf 49 = 4 := by kernel_rfl
  have e2 : Try.prog.cellsOf 9 = 1 := by kernel_rfl
  have e3 : Try.prog.cellsOf 3 = 1 := by kernel_rfl
  have e4 : Try.prog.cellsOf 22 = 1 := by kernel_rfl
  rw [e1] at hl
  match cs, hl with
  | [c0, c1, c2, c3], _ =>
    simp only [e2, e3, e4, List.drop_zero, List.take_succ_cons, List.take_zero, List.drop_succ_cons] at h0 h1 h2 h3
    obtain ⟨a, ha, _⟩ := DataW.trod_int Try.underlying3 h0
    obtain ⟨b, hb, _⟩ := DataW.trod_int Try.underlying3 h1
    obtain ⟨s, hs, _, hsz⟩ := DataW.trod_string Try.underlying9 h2
    obtain ⟨B, l, c, hc⟩ := Joins.slice_form Try.underlying22 h3
    cases ha; cases hb; cases hs; cases hc
    obtain ⟨l, rfl, hC, hlc, hp⟩ := C_of_trod' k33 (fun a => a.f0.size ≤ maxLen) Try.underlying22 (by kernel_rfl) mem_of_trod h3
    exact ⟨⟨a, b, s, l⟩, ⟨B, c, rfl, hC, hlc⟩, hsz, hp⟩
theorem open_acts {A : Option Addr} {len cap : Nat} {dd : DataW H} {ps : List MemPlace} {ts : List TypeId} {ds : List (DataW H)} (hw : (DataW.weightsEach Try.prog ts ds).all (· ≤ reachBytes) = true) {j : Nat} (ht : ts[j]? = some 44) (hd : ds[j]? = some dd)
    (h : DataW.Trod enc Try.prog W base sp held 44 (.slice A len cap) dd ps) :
    ∃ l : List SAct, len = l.length ∧ Kd.C kA W A l.length l ∧ l.length ≤ cap ∧ (∀ a ∈ l, actOk a) ∧ l.length * 56 ≤ 140737488351232 :=
  C_of_trod kA actOk Try.underlying44 (by kernel_rfl) (by kernel_rfl) act_of_trod hw ht hd h
end
end Go.Proofs.Ytbcpodbihldfgaa

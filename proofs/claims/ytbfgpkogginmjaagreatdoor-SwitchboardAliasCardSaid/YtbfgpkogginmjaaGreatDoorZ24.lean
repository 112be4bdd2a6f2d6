/- Parts of a proof about aliases: I2. -/
import Derived.Test.YtbfgpkogginmjaaGreatDoorZ22
import Derived.Test.YtbfgpkogginmjaaGreatDoorZ23
section
namespace Go.Proofs.YtbfgpkogginmjaaGreatDoor
open Go.RowKit Go.Lib Go.Proofs.YtbfgpkogginmjaaGreatDoorW.PrintWords Go.Proofs.YtbfgpkogginmjaaGreatDoor.PSwitchboardGreat
set_option linter.unusedVariables false
set_option linter.unusedSimpArgs false
def pubS : ByteArray := ⟨#[112, 117, 98]⟩
def subS : ByteArray := ⟨#[115, 117, 98]⟩
theorem own_row {w : World} {base e n : Nat} {v : Value} {zs : List Value} (h : w.ownsRow base e 1 v n zs) (hn : n ≠ 0) : ∃ b c, v = .slice (some ⟨b, 0, none⟩) n c ∧ base ≤ b ∧ n ≤ c ∧ Row1 w b e zs.toArray := by
  obtain ⟨hl, hq⟩ := h
  rcases hq with ⟨_, h2⟩ | ⟨g, cap, cur, e1, e2, e3, e4, e5, e6, e7⟩
  · exact absurd h2 hn
  · refine ⟨g, cap, e1, e2, e4, ⟨(cur.toList.drop n).toArray, ?_⟩⟩
    have : zs.toArray ++ (cur.toList.drop n).toArray = cur := by
      rw [Nat.mul_one] at e7
      rw [← e7]
      simp
    rw [this]
    exact e3
def one1 : Value → Option (DataW Unit × List MemPlace) := fun _ => some (.lit (.bool true), [])
theorem rd_one {s : ByteArray} {v : Value} {k : Nat} (hs : s.size ≤ maxLen) : WideElems.rd Tryz.prog 9 one1 ⟨.string s, v, k⟩ = some (.string s.data.toList, .lit (.bool true)) := by
  simp [WideElems.rd, WideMaps.keyOf_string_mk Tryz.underlying9 hs, one1]
theorem own_map0 {w : World} {b k : Nat} (h : w.heap[b]? = some (.map #[] k)) : w.ownsMap Tryz.prog 9 one1 b 0 (.map []) := ⟨_, _, h, ⟨by decide, ⟨by simp, by simp, by simp⟩, by simp⟩, by simp, rfl⟩
theorem own_map1 {w : World} {b : Nat} {v0 : Value} (h : w.heap[b]? = some (.map #[⟨.string pubS, v0, 0⟩] 1)) : w.ownsMap Tryz.prog 9 one1 b 1 (.map [(.string pubS.data.toList, .lit (.bool true))]) := by
  have h1 := rd_one (s := pubS) (v := v0) (k := 0) (by decide)
  refine ⟨_, _, h, ⟨(by decide : 1 ≤ maxLen), ⟨by simp, by simp, by simp⟩, fun x hx => ?_⟩, Nat.le_refl 1, ?_⟩
  · have : x = ⟨.string pubS, v0, 0⟩ := by simpa using hx
    exact ⟨_, this ▸ h1⟩
  · simp only [List.map_cons, List.map_nil, WideElems.rg, h1, Option.getD_some, List.foldr_cons, List.foldr_nil]
    rfl
theorem own_map2 {w : World} {b : Nat} {v0 v1 : Value} (h : w.heap[b]? = some (.map #[⟨.string pubS, v0, 0⟩, ⟨.string subS, v1, 1⟩] 2)) : w.ownsMap Tryz.prog 9 one1 b 2 (.map [(.string pubS.data.toList, .lit (.bool true)), (.string subS.data.toList, .lit (.bool true))]) := by
  have h1 := rd_one (s := pubS) (v := v0) (k := 0) (by decide)
  have h2 := rd_one (s := subS) (v := v1) (k := 1) (by decide)
  refine ⟨_, _, h, ⟨(by decide : 2 ≤ maxLen), ⟨by simp, by simp, by simp [pubS, subS]⟩, fun x hx => ?_⟩, Nat.le_refl 2, ?_⟩
  · have : x = ⟨.string pubS, v0, 0⟩ ∨ x = ⟨.string subS, v1, 1⟩ := by simpa using hx
    rcases this with e | e
    · exact ⟨_, e ▸ h1⟩
    · exact ⟨_, e ▸ h2⟩
  · simp only [List.map_cons, List.map_nil, WideElems.rg, h1, h2, Option.getD_some, List.foldr_cons, List.foldr_nil]
    rfl
theorem ms1 {ss : List (List UInt8)} {a : List UInt8} (h : ss.Perm [a]) : ss.mergeSort (fun x y => decide (x ≤ y)) = [a] := by
  obtain rfl := h.eq_singleton
  simp [List.mergeSort]
theorem ms_two (a b : List UInt8) : [a, b].mergeSort (fun x y => decide (x ≤ y)) = if decide (a ≤ b) then [a, b] else [b, a] := by
  simp [List.mergeSort, List.MergeSort.Internal.splitInTwo, List.merge]
theorem ms2 {ss : List (List UInt8)} (h : ss.Perm [pubS.data.toList, subS.data.toList]) : ss.mergeSort (fun x y => decide (x ≤ y)) = [pubS.data.toList, subS.data.toList] := by
  have hl := h.length_eq
  have hm := (List.mergeSort_perm ss (fun x y => decide (x ≤ y)))
  match ss, hl, h with
  | [x, y], _, h =>
    have hx : x = pubS.data.toList ∨ x = subS.data.toList := by simpa using h.subset (List.mem_cons_self ..)
    rcases hx with rfl | rfl
    · have := (List.perm_cons _).1 h
      obtain rfl : y = subS.data.toList := by simpa using this.eq_singleton
      exact (ms_two _ _).trans (by decide)
    · have := (List.perm_cons _).1 (h.trans (List.Perm.swap _ _ _))
      obtain rfl : y = pubS.data.toList := by simpa using this.eq_singleton
      exact (ms_two _ _).trans (by decide)
theorem encS (s : ByteArray) : encStr s.data.toList = .string s := by
  cases s
  simp [encStr]
def KeysP (w : World) (zs : Array Value) (e : Ending) (w' : World) : Prop := ∃ b c, e = .returned (.slice (some ⟨b, 0, none⟩) zs.size c) ∧ zs.size ≤ c ∧ w.heap.size ≤ b ∧ Row1 w' b 9 zs ∧ Below w.heap.size w w'
theorem keys78_calls {w : World} (b : Nat) : Calls Tryz.prog 78 #[.map (some b)] w (Is (.func (.func 118) #[] #[.pointer (some ⟨w.heap.size, 0, none⟩)]) (w.alloc (.cells #[.map (some b)] 101))) := callsIn_wide.1 (Tryz.maps_Keys_78 (some b) w)
theorem sorted1_calls {w : World} {b : Nat} {v0 : Value} (h : w.heap[b]? = some (.map #[⟨.string pubS, v0, 0⟩] 1)) : Calls Tryz.prog 77 #[.func (.func 118) #[] #[.pointer (some ⟨w.heap.size, 0, none⟩)]] (w.alloc (.cells #[.map (some b)] 101)) (KeysP (w.alloc (.cells #[.map (some b)] 101)) #[.string pubS]) := by
  refine (callsIn_wide.1 (Tryz.slices_Sorted_keys_77_78 b 1 _ one1 w (own_map1 h) (by decide) (by decide))).mono ?_
  rintro e w' ⟨v, ss, rfl, hp, hr, _, hb⟩
  have hp : ss.Perm [pubS.data.toList] := hp
  have hl : ss.length = 1 := hp.length_eq
  rw [ms1 hp, hl] at hr
  obtain ⟨g, c, rfl, hg, hc, hr⟩ := own_row hr (by decide)
  refine ⟨g, c, rfl, hc, hg, ?_, hb⟩
  simp only [List.map_cons, List.map_nil, encS] at hr
  exact hr
theorem sorted2_calls {w : World} {b : Nat} {v0 v1 : Value} (h : w.heap[b]? = some (.map #[⟨.string pubS, v0, 0⟩, ⟨.string subS, v1, 1⟩] 2)) : Calls Tryz.prog 77 #[.func (.func 118) #[] #[.pointer (some ⟨w.heap.size, 0, none⟩)]] (w.alloc (.cells #[.map (some b)] 101)) (KeysP (w.alloc (.cells #[.map (some b)] 101)) #[.string pubS, .string subS]) := by
  refine (callsIn_wide.1 (Tryz.slices_Sorted_keys_77_78 b 2 _ one1 w (own_map2 h) (by decide) (by decide))).mono ?_
  rintro e w' ⟨v, ss, rfl, hp, hr, _, hb⟩
  have hp : ss.Perm [pubS.data.toList, subS.data.toList] := hp
  have hl : ss.length = 2 := hp.length_eq
  rw [ms2 hp, hl] at hr
  obtain ⟨g, c, rfl, hg, hc, hr⟩ := own_row hr (by decide)
  refine ⟨g, c, rfl, hc, hg, ?_, hb⟩
  simp only [List.map_cons, List.map_nil, encS] at hr
  exact hr
end Go.Proofs.YtbfgpkogginmjaaGreatDoor
end

/- SharePlays: what each call does to the state of both. -/
import Derived.Test.YtbcpodbihldfgaaY
namespace Go.Proofs.Ytbcpodbihldfgaa
open Go.RowKit Go.Maps Go.Proofs.YtbcpodbihldfgaaW.PrintWords Go.Proofs.Ytbcpodbihldfgaa.PSharePlays
set_option linter.unusedVariables false

/-- An act that came in. -/
structure SAct where
  kind : Int
  num : Int
  grp : ByteArray
  l : List S33
def kA : Kd SAct where
  sz := 4
  E := []
  K := fun w x cs => ∃ A c, cs = [.int .i64 x.kind, .int .i64 x.num, .string x.grp, .slice A x.l.length c] ∧ Kd.C k33 w A x.l.length x.l ∧ x.l.length ≤ c
  M := fun _ _ _ _ _ => False
  K_len := by rintro w x cs ⟨A, c, rfl, _⟩; rfl
  K_one := by
    rintro w x cs ⟨A, c, rfl, _⟩ u hu
    simp only [List.mem_cons, List.not_mem_nil, or_false] at hu
    rcases hu with rfl | rfl | rfl | rfl <;> rfl
  K_below := by rintro w w1 x cs hb ⟨A, c, rfl, h1, h2⟩; exact ⟨A, c, rfl, Kd.C_below h1 hb, h2⟩
  K_of_M := fun h => h.elim
  M_mono := fun _ h => h
  M_bound := fun h => h
  M_move := fun _ h => h
  M_lower := fun _ h => h

section
variable {w0 w w1 : World} {g xb n : Nat} {S : Nat → Prop} {wait waitx : List Int} {G : List UInt8 → Int} {L : List S64}

theorem PX.put (h : PX w0 w g xb n S wait G waitx L) {A A' : Option Addr} {c c' : Nat} {wait' : List Int} {L' : List S64} (h2 : wait'.length ≤ c) (h3 : L'.length ≤ c')
    (h4 : ∀ W, Kept w W (fun k => S k ∨ k = xb) → Kd.C (Kd.int .i64) W A wait'.length wait' ∧ Kd.C k64 W A' L'.length L') :
    PX w0 ((w.setCell ⟨xb, 0, none⟩ (.slice A wait'.length c)).setCell ⟨xb, 1, none⟩ (.slice A' L'.length c')) g xb n S wait G wait' L' := by
  obtain ⟨B, d, B', d', h1, _⟩ := h.rx.st
  have hk : Kept w ((w.setCell ⟨xb, 0, none⟩ (.slice A wait'.length c)).setCell ⟨xb, 1, none⟩ (.slice A' L'.length c')) (fun k => S k ∨ k = xb) := ((Kept.refl w _).setCell (.inl (.inr rfl)) _).setCell (.inl (.inr rfl)) _
  refine ⟨h.pk.move (fun k hs hl => ?_) (fun _ hs _ => hs), h.nx, h.ox, ⟨A, c, A', c', (blk_set ((blk_set h1 0 _).trans rfl) 1 _).trans rfl, h2, h3, fun W hw => h4 W (hk.then_ hw (fun k hk => .inl hk))⟩, (h.below.setCell h.ox _).setCell h.ox _⟩
  have hne : k ≠ xb := fun e => h.nx (e ▸ hs)
  exact (Below.heap_setCell _ _ _ _ hne).trans (Below.heap_setCell _ _ _ _ hne)
theorem PX.put0 (h : PX w0 w g xb n S wait G waitx L) {A : Option Addr} {c : Nat} {wait' : List Int} (h2 : wait'.length ≤ c)
    (h4 : ∀ W, Kept w W (fun k => S k ∨ k = xb) → Kd.C (Kd.int .i64) W A wait'.length wait') :
    PX w0 (w.setCell ⟨xb, 0, none⟩ (.slice A wait'.length c)) g xb n S wait G wait' L := by
  obtain ⟨B, d, B', d', h1, _, e3, e4⟩ := h.rx.st
  have hk : Kept w (w.setCell ⟨xb, 0, none⟩ (.slice A wait'.length c)) (fun k => S k ∨ k = xb) := (Kept.refl w _).setCell (.inl (.inr rfl)) _
  refine ⟨h.pk.move (fun k hs hl => ?_) (fun _ hs _ => hs), h.nx, h.ox, ⟨A, c, B', d', (blk_set h1 0 _).trans rfl, h2, e3, fun W hw => ?_⟩, h.below.setCell h.ox _⟩
  · have hne : k ≠ xb := fun e => h.nx (e ▸ hs)
    exact Below.heap_setCell _ _ _ _ hne
  · have hw' := hk.then_ hw (fun k hk => .inl hk)
    exact ⟨h4 W hw', (e4 W hw').2⟩

theorem PX.cells (h : PX w0 w g xb n S wait G waitx L) : ∃ A c A' c', w.heap[xb]? = some (.cells #[.slice A waitx.length c, .slice A' L.length c'] 47 (0, 0)) ∧ waitx.length ≤ c ∧ L.length ≤ c' ∧ Kd.C (Kd.int .i64) w A waitx.length waitx ∧ Kd.C k64 w A' L.length L ∧
    ∀ W, Kept w W (fun k => S k ∨ k = xb) → Kd.C (Kd.int .i64) W A waitx.length waitx ∧ Kd.C k64 W A' L.length L := by
  obtain ⟨A, c, A', c', h1, h2, h3, h4⟩ := h.rx.st
  have := h4 w (Kept.refl _ _)
  exact ⟨A, c, A', c', h1, h2, h3, this.1, this.2, h4⟩

theorem PX.push (h : PX w0 w g xb n S wait G waitx L) (hl : wait.length ≤ 64) (x : Int) :
    Calls Try.prog 11 #[.pointer (some ⟨g, 0, none⟩), .int .i64 x] w fun e w' => e = .returned (.int .i64 (if wait.length = 64 then 6 else 0)) ∧ Hid (PX w0 w' g xb n (fun k => S k ∨ w.heap.size ≤ k) (if wait.length = 64 then wait else wait ++ [x]) G waitx L ∧ Kept w w' S) := by
  refine (push_calls h.below h.pk hl x).mono ?_
  rintro e w' ⟨rfl, hp, hd⟩
  exact ⟨rfl, h.did hp hd, hd.kept⟩
theorem PX.forget (h : PX w0 w g xb n S wait G waitx L) (s : ByteArray) (hs : s.size ≤ maxLen) :
    Calls Try.prog 17 #[.pointer (some ⟨g, 0, none⟩), .string s] w fun e w' => e = .returned (.tuple #[]) ∧ Hid (PX w0 w' g xb n (fun k => S k ∨ w.heap.size ≤ k) wait (setG G s.data.toList 0) waitx L) := by
  refine (forget_calls h.below h.pk s hs).mono ?_
  rintro e w' ⟨rfl, hp, hd⟩
  exact ⟨rfl, h.did hp hd⟩
theorem PX.choose0 (h : PX w0 w g xb n S wait G waitx L) (s : ByteArray) {A : Option Addr} {c : Nat} {l : List S33} {b0 : Nat} (hr : Kd.R k33 33 w b0 (fun _ => True) (.slice A l.length c) l) (hS : ∀ k, S k → k < b0) (hl : l.length ≤ 1000) (h0 : l.length = 0) :
    Calls Try.prog 12 #[.pointer (some ⟨g, 0, none⟩), .string s, .slice A l.length c] w fun e w' => e = .returned (.tuple #[.string ⟨#[]⟩, .bool false]) ∧ Hid (PX w0 w' g xb n (fun k => S k ∨ w.heap.size ≤ k) wait G waitx L ∧ Kept w w' S) := by
  refine (choose_none (l := l) h.below h.pk s (fun W hk => ?_) (Kd.R_reads' hr).2.1 hl (by have := thereL_len l; omega)).mono ?_
  · exact Kd.C_kept_own (Kd.R_bound hr) (S := fun k => S k ∧ k < w.heap.size) (fun k hk hn => by have h1 := hk.2.1; have h2 := hS k hn.1; omega) W hk
  · rintro e w' ⟨rfl, hp, hd⟩
    exact ⟨rfl, h.did hp hd, hd.kept⟩
theorem PX.choose1 (h : PX w0 w g xb n S wait G waitx L) (hn : n < 1000000) (s : ByteArray) (hs : s.size ≤ maxLen) {A : Option Addr} {c : Nat} {l : List S33} {b0 : Nat} (hr : Kd.R k33 33 w b0 (fun _ => True) (.slice A l.length c) l) (hS : ∀ k, S k → k < b0) (hl : l.length ≤ 1000) (h0 : 0 < l.length) :
    Calls Try.prog 12 #[.pointer (some ⟨g, 0, none⟩), .string s, .slice A l.length c] w fun e w' => e = .returned (.tuple #[.string (rd_T33 (thereL l) (chooseI (wait.headD (G s.data.toList)) (thereL l).length)).f0, .bool true]) ∧
      Hid (PX w0 w' g xb (n + 1) (fun k => S k ∨ w.heap.size ≤ k) wait.tail (setG G s.data.toList (G s.data.toList + 1)) waitx L ∧ Kept w w' S) := by
  refine (choose_some (l := l) h.below h.pk hn s hs (fun W hk => ?_) (Kd.R_reads' hr).2.1 hl (thereL_pos l h0)).mono ?_
  · exact Kd.C_kept_own (Kd.R_bound hr) (S := fun k => S k ∧ k < w.heap.size) (fun k hk hn => by have h1 := hk.2.1; have h2 := hS k hn.1; omega) W hk
  · rintro e w' ⟨rfl, hp, hd⟩
    exact ⟨rfl, h.did hp hd, hd.kept⟩
theorem PX.congr (h : PX w0 w g xb n S wait G waitx L) {G' : List UInt8 → Int} (e : ∀ s, G s = G' s) : PX w0 w g xb n S wait G' waitx L := ⟨h.pk.congr e, h.nx, h.ox, h.rx, h.below⟩
end
end Go.Proofs.Ytbcpodbihldfgaa

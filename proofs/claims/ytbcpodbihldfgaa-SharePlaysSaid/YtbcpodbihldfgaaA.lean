/- The contracts of share.Picks' methods: what they do to the state 'PK' (numbers that wait, how often each group was asked). No conditions but the premises of each theorem. -/
import Derived.Test.YtbcpodbihldfgaaPSharePlaysx0
import Derived.Maps.OwnSet
import Derived.Lib.Hide
namespace Go.Proofs.Ytbcpodbihldfgaa
open Go.RowKit Go.Maps Go.Proofs.YtbcpodbihldfgaaW.PrintWords
set_option linter.unusedVariables false

theorem law9 : Keyed Try.prog 9 := string_keyed Try.underlying9
theorem zero3 (w : World) : (zeroValue 3).run Try.prog w = .ok (.int .i64 0) w := by kernel_rfl
theorem info3' : (Try.prog.info? 3).map (fun i => (i.zero, i.size, i.bytes)) = some (some (.int .i64 0), 1, 8) := by kernel_rfl

/-- A group's count, out of a map's datum. -/
def gint : DataW Unit → Int
  | .lit (.int .i64 c) => c
  | _ => 0
theorem gint_int (c : Int) : gint (.lit (.int .i64 c)) = c := rfl

/-- Picks at block g: the numbers that wait, how often each group was asked. -/
structure PK (w : World) (base g : Nat) (S : Nat → Prop) (wait : List Int) (n : Nat) (G : List UInt8 → Int) : Prop where
  st : ∃ v bm, ∃ D : DataW Unit, w.heap[g]? = some (.cells #[v, .map (some bm)] 60 (0, 0)) ∧ S g ∧ S bm ∧ base ≤ g ∧ base ≤ bm ∧
    Kd.Q (Kd.int .i64) 3 w base S v wait ∧ w.ownsMap Try.prog 9 (plainElem Try.prog 3) bm n D ∧
    (∀ s, D.atKey (.string s) (.lit (.int .i64 0)) = .lit (.int .i64 (G s))) ∧ ∀ s, 0 ≤ G s ∧ G s ≤ n

section
variable {w w0 w1 : World} {base g n : Nat} {S S1 T : Nat → Prop} {wait : List Int} {G G' : List UInt8 → Int}
theorem map_move {bm : Nat} {D : DataW Unit} (h : w.ownsMap Try.prog 9 (plainElem Try.prog 3) bm n D) (hm : w1.heap[bm]? = w.heap[bm]?) : w1.ownsMap Try.prog 9 (plainElem Try.prog 3) bm n D := by
  obtain ⟨es, clock, e1, e2⟩ := h
  exact ⟨es, clock, hm.trans e1, e2⟩
theorem PK.move (h : PK w base g S wait n G) (hm : ∀ k, S k → k < w.heap.size → w1.heap[k]? = w.heap[k]?) (hs : ∀ k, S k → k < w.heap.size → S1 k) : PK w1 base g S1 wait n G := by
  obtain ⟨v, bm, D, h1, h2, h3, h5, h6, h7, h8, h9, h10⟩ := h.st
  have hg := blk_lt h1
  have hb := h8.lt
  exact ⟨v, bm, D, (hm g h2 hg).trans h1, hs g h2 hg, hs bm h3 hb, h5, h6,
    Kd.Q_mono (Kd.Q_move (Kd.Q_bound h7) (fun k hk => hm k hk.1 hk.2.2.1)) (fun k hk => hs k hk.1 hk.2.2.1), map_move h8 (hm bm h3 hb), h9, h10⟩
theorem PK.kept (h : PK w base g S wait n G) (hk : Kept w w1 T) (hne : ∀ k, S k → ¬ T k) : PK w1 base g S wait n G :=
  h.move (fun k hs hl => hk.2 k hl (hne k hs)) (fun _ hs _ => hs)
theorem PK.below (h : PK w base g S wait n G) (hb : Below w.heap.size w w1) : PK w1 base g S wait n G :=
  h.move (fun k _ hl => hb.block k hl) (fun _ hs _ => hs)
theorem PK.mono (h : PK w base g S wait n G) (hs : ∀ k, S k → k < w.heap.size → S1 k) : PK w base g S1 wait n G :=
  h.move (fun _ _ _ => rfl) hs
theorem PK.congr (h : PK w base g S wait n G) (e : ∀ s, G s = G' s) : PK w base g S wait n G' := by
  have : G = G' := funext e
  subst this
  exact h

/-! ### Len, Turn -/
theorem len_calls (h : PK w base g S wait n G) :
    Calls Try.prog 14 #[.pointer (some ⟨g, 0, none⟩)] w fun e w' => e = .returned (.int .i64 wait.length) ∧ w = w' := by
  obtain ⟨v, bm, D, h1, _, _, _, _, h7, _⟩ := h.st
  obtain ⟨A, c, rfl, _⟩ := Kd.Q_slice h7
  have c0 : w.cell? ⟨g, 0, none⟩ = some (.slice A wait.length c) := (blk_cell h1 0).trans rfl
  clear h h1 h7
  go_enter Try.func14, Try.ntmps14
  go_wp2
  go_ret
  exact ⟨rfl, rfl⟩

theorem turn_calls (h : PK w base g S wait n G) (s : ByteArray) (hs : s.size ≤ maxLen) :
    Calls Try.prog 13 #[.pointer (some ⟨g, 0, none⟩), .string s] w fun e w' => e = .returned (.int .i64 (G s.data.toList)) ∧ w = w' := by
  obtain ⟨v, bm, D, h1, _, _, _, _, h7, h8, h9, _⟩ := h.st
  have c1 : w.cell? ⟨g, 1, none⟩ = some (.map (some bm)) := (blk_cell h1 1).trans rfl
  have hkey := WideMaps.keyOf_string_mk (P := Try.prog) Try.underlying9 hs
  have h9' := Lib.hid (h9 s.data.toList)
  clear h h1 h7 h9
  go_enter Try.func13, Try.ntmps13
  go_wp2_with (first
    | (at_lookup; refine wpList_lookup_own_int _ rfl _ _ 58 rfl 9 3 .i64 law9 Try.underlying58 Try.underlying3 (zero3 _) bm n D rfl h8 _ _ rfl hkey ?_; intro c hat hwc)
    | go_in)
  go_ret
  have := hat.symm.trans h9'.out
  simp only [DataW.lit.injEq, Lit.int.injEq, true_and] at this
  subst this
  exact ⟨rfl, rfl⟩

/-! ### Push -/
/-- What a call that writes Picks' own blocks alone leaves. -/
structure Did (w0 w w' : World) (S : Nat → Prop) : Prop where
  below : Below w0.heap.size w0 w'
  kept : Kept w w' S

def PushPost (w0 w : World) (g : Nat) (S : Nat → Prop) (wait : List Int) (n : Nat) (G : List UInt8 → Int) (x : Int) (e : Ending) (w' : World) : Prop :=
  e = .returned (.int .i64 (if wait.length = 64 then 6 else 0)) ∧ PK w' w0.heap.size g (fun k => S k ∨ w.heap.size ≤ k) (if wait.length = 64 then wait else wait ++ [x]) n G ∧ Did w0 w w' S

theorem map_blk_ne {bm : Nat} {D : DataW Unit} {t : TypeId} {cs : Array Value} (h : w.ownsMap Try.prog 9 (plainElem Try.prog 3) bm n D) (h1 : w.heap[g]? = some (.cells cs t (0, 0))) : g ≠ bm := by
  rintro rfl
  obtain ⟨es, clock, e1, _⟩ := h
  rw [e1] at h1
  cases h1

theorem push_calls (hB : Below w0.heap.size w0 w) (h : PK w w0.heap.size g S wait n G) (hl : wait.length ≤ 64) (x : Int) :
    Calls Try.prog 11 #[.pointer (some ⟨g, 0, none⟩), .int .i64 x] w (PushPost w0 w g S wait n G x) := by
  have hst := h.st
  obtain ⟨v, bm, D, h1, h2, h3, h5, h6, h7, h8, h9, h10⟩ := hst
  obtain ⟨A, c, rfl, _⟩ := Kd.Q_slice h7
  have c0 : w.cell? ⟨g, 0, none⟩ = some (.slice A wait.length c) := (blk_cell h1 0).trans rfl
  by_cases h64 : wait.length = 64
  · have e1 : ((wait.length : Int) == 64) = true := by rw [h64]; rfl
    have hfin : PushPost w0 w g S wait n G x (.returned (.int .i64 6)) w := by
      refine ⟨by rw [if_pos h64], ?_, ⟨hB, Kept.refl _ _⟩⟩
      rw [if_pos h64]
      exact h.mono (fun _ hs _ => .inl hs)
    have hfin' := Lib.hid hfin
    clear hfin h h1 h7 h8 h9 h64 hB
    go_enter Try.func11, Try.ntmps11
    go_wp2
    go_ret
    exact hfin'.out
  · have e1 : ((wait.length : Int) == 64) = false := by
      rw [beq_eq_false_iff_ne]; omega
    have hneq : some g ≠ (Value.slice A wait.length c).ownBlock := Kd.Q_ne h7 h1 (by decide)
    have hmq : some bm ≠ (Value.slice A wait.length c).ownBlock := fun he => by
      obtain ⟨cells, hc⟩ := Kd.Q_typed h7 bm he.symm
      exact map_blk_ne h8 hc rfl
    have hgm := map_blk_ne h8 h1
    have hglt := blk_lt h1
    have hmlt := h8.lt
    have hfin : ∀ v1 w1, Kd.Q (Kd.int .i64) 3 w1 w0.heap.size (fun k => S k ∨ w.heap.size ≤ k) v1 (wait ++ [x]) → Below w0.heap.size w0 w1 → w.grownBy w1 (Value.slice A wait.length c).ownBlock →
        PushPost w0 w g S wait n G x (.returned (.int .i64 0)) (w1.setCell ⟨g, 0, none⟩ v1) := by
      intro v1 w1 hq hb hgr
      have hg1 : w1.heap[g]? = some (.cells #[.slice A wait.length c, .map (some bm)] 60 (0, 0)) := (hgr.block g hglt hneq).trans h1
      refine ⟨by rw [if_neg h64], ?_, ⟨hb.setCell h5 _, ?_⟩⟩
      · rw [if_neg h64]
        refine ⟨v1, bm, D, (blk_set hg1 0 v1).trans rfl, .inl h2, .inl h3, h5, h6, Kd.Q_set hq hg1 (by decide) 0 v1, ?_, h9, h10⟩
        exact map_move h8 ((Below.heap_setCell _ _ _ _ (Ne.symm hgm)).trans (hgr.block bm hmlt hmq))
      · exact (Kept.of_grown hgr (Kept.refl _ _) (fun k hk => .inl (h7.1 k hk))).setCell (.inl h2) _
    have hfin' := Lib.hid hfin
    have H1 := Lib.hid h1
    have HB := Lib.hid hB
    have H5 := Lib.hid h7
    clear hfin h h1 h7 h8 h9 h10 hB
    have h64' := Lib.hid h64
    clear h64
    go_enter Try.func11, Try.ntmps11
    go_wp2_with (first | (at_builtin; refine Kd.Q_append (Kd.int .i64) (w0 := w0) w0.heap.size rfl (.tmp 15) (.tmp 17) 23 3 (.int .i64 0) 8 rfl Try.underlying23 info3' rfl (by decide) (by omega) (.slice A wait.length c) wait x [.int .i64 x] (fun k => S k ∨ w.heap.size ≤ k) (fun _ => False) rfl (by first | (go_simp; done) | (go_simp; rfl)) ?aP (fun _ hk => hk.elim) ?aF ?aO ?aB ?aS ?aL ?_; (case aP => exact rfl); (case aF => exact fun k hk => .inr hk); (case aO => exact Kd.Q_mono H5.out (fun _ hk => .inl hk)); (case aB => exact HB.out); (case aS => exact HB.out.size); (case aL => omega); intro v1 w1 hq1 hb1 hgr1 _; obtain ⟨A1, cp1, rfl, _⟩ := Kd.Q_slice hq1; have hf1 := Lib.hid (hfin'.out _ w1 hq1 hb1 hgr1); have hg1 := (hgr1.block g hglt hneq).trans H1.out; have c1 : w1.cell? ⟨g, 0, none⟩ = some (.slice A wait.length c) := (blk_cell hg1 0).trans rfl; have fz1 : w1.frozen? ⟨g, 0, none⟩ = false := blk_frozen hg1 0; clear hq1 hb1 hgr1 hg1) | go_in)
    go_ret
    have hf2 := hf1.out
    rw [List.length_append] at hf2
    exact hf2

/-! ### New, Forget -/
def setG (G : List UInt8 → Int) (s : List UInt8) (c : Int) : List UInt8 → Int := fun t => if t = s then c else G t

def NewPost (w0 w : World) (e : Ending) (w' : World) : Prop :=
  ∃ g, e = .returned (.pointer (some ⟨g, 0, none⟩)) ∧ PK w' w0.heap.size g (fun k => w.heap.size ≤ k) [] 0 (fun _ => 0) ∧ Below w.heap.size w w'

theorem new_calls (hs : w0.heap.size ≤ w.heap.size) :
    Calls Try.prog 10 #[] w (NewPost w0 w) := by
  have hmm := @run_makeMap Try.prog
  have hfin : NewPost w0 w (.returned (.pointer (some ⟨w.heap.size + 1, 0, none⟩))) ((w.alloc (.map #[] 0)).alloc (.cells #[.slice none 0 0, .map (some w.heap.size)] 60)) := by
    refine ⟨_, rfl, ⟨.slice none 0 0, w.heap.size, .map [], ?_, by simp, Nat.le_refl _, by omega, hs, Kd.Q_nil _ _ _ _ _, ?_, fun s => rfl, fun s => by simp⟩, ?_⟩
    · have := heap_alloc_new (w.alloc (.map #[] 0)) (.cells #[.slice none 0 0, .map (some w.heap.size)] 60)
      simpa using this
    · exact (World.ownsMap_made w Try.prog 9 (plainElem Try.prog 3)).alloc _
    · exact ((Below.refl _ _).alloc (Nat.le_refl _) _).alloc (by simp) _
  have hfin' := Lib.hid hfin
  clear hfin
  go_enter Try.func10, Try.ntmps10
  go_wp2
  go_ret
  exact hfin'.out

def ForgetPost (w0 w : World) (g : Nat) (S : Nat → Prop) (wait : List Int) (n : Nat) (G : List UInt8 → Int) (s : List UInt8) (e : Ending) (w' : World) : Prop :=
  e = .returned (.tuple #[]) ∧ PK w' w0.heap.size g (fun k => S k ∨ w.heap.size ≤ k) wait n (setG G s 0) ∧ Did w0 w w' S
theorem forget_calls (hB : Below w0.heap.size w0 w) (h : PK w w0.heap.size g S wait n G) (s : ByteArray) (hs : s.size ≤ maxLen) :
    Calls Try.prog 17 #[.pointer (some ⟨g, 0, none⟩), .string s] w (ForgetPost w0 w g S wait n G s.data.toList) := by
  have hst := h.st
  obtain ⟨v, bm, D, h1, h2, h3, h5, h6, h7, h8, h9, h10⟩ := hst
  have c1 : w.cell? ⟨g, 1, none⟩ = some (.map (some bm)) := (blk_cell h1 1).trans rfl
  have hkey := WideMaps.keyOf_string_mk (P := Try.prog) Try.underlying9 hs
  have hfin : ∀ w1, w1.ownsMap Try.prog 9 (plainElem Try.prog 3) bm n (D.del (.string s.data.toList)) → w.grownBy w1 (some bm) → ForgetPost w0 w g S wait n G s.data.toList (.returned (.tuple #[])) w1 := by
    intro w1 hm hgr
    have hgm := map_blk_ne h8 h1
    refine ⟨rfl, ⟨v, bm, _, (hgr.block g (blk_lt h1) (fun e => hgm (by injection e))).trans h1, .inl h2, .inl h3, h5, h6, ?_, hm, fun t => ?_, fun t => ?_⟩, ⟨hB.grown hgr hB.size (fun k hk => by cases hk; exact h6), Kept.of_grown hgr (Kept.refl _ _) (fun k hk => by cases hk; exact .inl h3)⟩⟩
    · refine Kd.Q_mono (Kd.Q_step (Kd.Q_bound h7) (fun k hk hlt => hgr.block k hlt (fun e => ?_))) (fun k hk => .inl hk.1)
      obtain ⟨_, _, _, q, _, cells, hc⟩ := hk
      exact map_blk_ne h8 hc (by injection e)
    · unfold setG
      split
      · rename_i e; subst e; exact atKey_del_same _
      · rename_i e; rw [atKey_del_other (fun e' => e (by injection e'))]; exact h9 t
    · have := h10 t
      unfold setG
      split
      · simp
      · exact this
  have hfin' := Lib.hid hfin
  clear hfin h h1 h7 h9 h10 hB
  go_enter Try.func17, Try.ntmps17
  go_wp2_with (first
    | (at_delete; refine wpList_delete_own _ rfl _ _ 58 9 rfl 3 law9 Try.underlying58 _ bm n D rfl h8 _ _ rfl hkey ?_; intro w1 hown1 hturn1)
    | go_in)
  go_end0
  exact hfin'.out w1 hown1 hturn1.grown

end
end Go.Proofs.Ytbcpodbihldfgaa

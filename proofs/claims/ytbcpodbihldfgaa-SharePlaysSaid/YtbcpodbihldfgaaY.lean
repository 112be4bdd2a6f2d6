/- SharePlays: the two choose alike (plain lists); the state of both. -/
import Derived.Test.YtbcpodbihldfgaaVa
namespace Go.Proofs.Ytbcpodbihldfgaa
open Go.RowKit Go.Maps Go.Proofs.YtbcpodbihldfgaaW.PrintWords Go.Proofs.Ytbcpodbihldfgaa.PSharePlays
set_option linter.unusedVariables false

/-! ### the two choose alike -/
def conv (m : S33) : S57 := ⟨m.f0, m.f1⟩
theorem fewT_conv (l : List S33) : fewT l = (fewL l).map conv := by
  unfold fewT fewL
  rw [List.map_map]
  rfl
theorem rd_conv (M : List S33) (i : Nat) (h : i < M.length) : rd_T57 (M.map conv) (i : Int) = conv (rd_T33 M (i : Int)) := by
  unfold rd_T57 rd_T33
  rw [Int.toNat_natCast, List.getD_eq_getElem?_getD, List.getD_eq_getElem?_getD, List.getElem?_map, List.getElem?_eq_getElem h]
  rfl
theorem on_alike (M : List S33) (k : Nat) (h : k ≤ M.length) : onL (M.take k) = (onI (M.map conv) k).map (fun i => rd_T33 M i) := by
  induction k with
  | zero => rfl
  | succ k ih =>
    have e := rd_conv M k (by omega)
    rw [onL_snoc M k (by omega), ih (by omega), onI_succ, e]
    by_cases hf : (rd_T33 M (k : Int)).f1 = true
    · rw [if_pos hf, if_pos (show (conv (rd_T33 M (k : Int))).f1 = true from hf), List.map_append]
      rfl
    · rw [if_neg hf, if_neg (show ¬ (conv (rd_T33 M (k : Int))).f1 = true from hf), List.append_nil]
theorem all_alike (M : List S33) (k : Nat) (h : k ≤ M.length) : M.take k = (allI k).map (fun i => rd_T33 M i) := by
  induction k with
  | zero => rfl
  | succ k ih =>
    rw [List.take_succ_eq_append_getElem (by omega), ih (by omega), allI_succ, List.map_append]
    congr 1
    unfold rd_T33
    simp only [List.map_cons, List.map_nil, Int.toNat_natCast, List.getD_eq_getElem?_getD, List.getElem?_eq_getElem (show k < M.length by omega), Option.getD_some]
theorem there_alike (M : List S33) : thereL M = (amongL (M.map conv)).map (fun i => rd_T33 M i) := by
  have h1 := on_alike M M.length (Nat.le_refl _)
  have h2 := all_alike M M.length (Nat.le_refl _)
  rw [List.take_length] at h1 h2
  have hl : (onL M).length = (onI (M.map conv) (M.map conv).length).length := by rw [h1, List.length_map, List.length_map]
  unfold thereL amongL
  by_cases h : (onL M).length = 0
  · rw [if_pos h, if_neg (by omega), List.length_map, ← h2]
  · rw [if_neg h, if_pos (by omega), List.length_map, ← h1]
theorem pick_alike (l : List S33) (d : Int) (h : 0 < (fewL l).length) : (rd_T33 (thereL (fewL l)) (chooseI d (thereL (fewL l)).length)).f0 = rPick (fewT l) d := by
  rw [fewT_conv]
  generalize fewL l = M at h
  have e := there_alike M
  have hl : (thereL M).length = (amongL (M.map conv)).length := by rw [e, List.length_map]
  unfold rPick
  rw [hl]
  have hp : 0 < (amongL (M.map conv)).length := by rw [← hl]; exact thereL_pos M h
  have hci := chooseI_bd d _ hp
  generalize chooseI d (amongL (M.map conv)).length = c at hci
  obtain ⟨k, rfl⟩ := Int.eq_ofNat_of_zero_le hci.1
  have hk : k < (amongL (M.map conv)).length := by omega
  rw [Int.toNat_natCast]
  have e1 : rd_T33 (thereL M) (k : Int) = rd_T33 M ((amongL (M.map conv)).getD k 0) := by
    rw [e]
    unfold rd_T33
    rw [Int.toNat_natCast, List.getD_eq_getElem?_getD, List.getElem?_map, List.getElem?_eq_getElem hk]
    simp [List.getD_eq_getElem?_getD, List.getElem?_eq_getElem hk]
  rw [e1]
  have hm : (amongL (M.map conv)).getD k 0 ∈ amongL (M.map conv) := by
    rw [List.getD_eq_getElem?_getD, List.getElem?_eq_getElem hk]
    exact List.getElem_mem _
  obtain ⟨i, hi, hi2⟩ := among_mem _ _ hm
  rw [hi, rd_conv M i (by simpa using hi2)]
  rfl

/-! ### how often each was asked -/
def GL (L : List S64) : List UInt8 → Int := fun s => askedL L ⟨s.toArray⟩
theorem GL_at (L : List S64) (g : ByteArray) : GL L g.data.toList = askedL L g := by unfold GL; rfl
theorem asked_append (L : List S64) (g h : ByteArray) (x : Int) : askedL (L ++ [⟨g, x⟩]) h = if (∃ t ∈ L, t.f0 = h) then askedL L h else if g = h then x else 0 := by
  induction L with
  | nil => simp [askedL]
  | cons t r ih =>
    rw [List.cons_append]
    unfold askedL
    by_cases e : t.f0 = h
    · rw [if_pos e, if_pos ⟨t, List.mem_cons_self, e⟩, if_pos e]
    · rw [if_neg e, ih, if_neg e]
      by_cases hr : ∃ t ∈ r, t.f0 = h
      · obtain ⟨t', h1, h2⟩ := hr
        rw [if_pos ⟨t', h1, h2⟩, if_pos ⟨t', List.mem_cons_of_mem _ h1, h2⟩]
      · have hn : ¬ ∃ t' ∈ t :: r, t'.f0 = h := by
          rintro ⟨t', h1, h2⟩
          rcases List.mem_cons.1 h1 with rfl | h1
          · exact e h2
          · exact hr ⟨t', h1, h2⟩
        rw [if_neg hr, if_neg hn]
theorem asked_forget (L : List S64) (g h : ByteArray) : askedL (forgetL L g) h = if h = g then 0 else askedL L h := by
  induction L with
  | nil => simp [forgetL, askedL]
  | cons t r ih =>
    unfold forgetL at ih ⊢
    rw [List.filter_cons]
    by_cases e : t.f0 = g
    · have e1 : (!(t.f0.toList == g.toList)) = false := by rw [e]; simp
      rw [if_neg (by rw [e1]; simp), ih]
      by_cases hg : h = g
      · rw [if_pos hg, if_pos hg]
      · rw [if_neg hg, if_neg hg]
        conv => rhs; unfold askedL
        rw [if_neg (fun he => hg (he.symm.trans e))]
    · have e1 : (!(t.f0.toList == g.toList)) = true := by
        have : (t.f0.toList == g.toList) = false := beq_eq_false_iff_ne.2 (fun h => e (bs_eq.1 h))
        rw [this]; rfl
      rw [if_pos e1]
      unfold askedL
      by_cases hh : t.f0 = h
      · rw [if_pos hh, if_pos hh, if_neg (fun he => e (hh.trans he))]
      · rw [if_neg hh, if_neg hh]
        exact ih
theorem forget_none (L : List S64) (g : ByteArray) : ¬ ∃ t ∈ forgetL L g, t.f0 = g := by
  rintro ⟨t, ht, e⟩
  have := (List.mem_filter.1 ht).2
  rw [e] at this
  simp at this
theorem asked_of_none (L : List S64) (g : ByteArray) (h : ¬ ∃ t ∈ L, t.f0 = g) : askedL L g = 0 := by
  induction L with
  | nil => rfl
  | cons t r ih =>
    unfold askedL
    rw [if_neg (fun e => h ⟨t, List.mem_cons_self, e⟩)]
    exact ih (fun ⟨t', h1, h2⟩ => h ⟨t', List.mem_cons_of_mem _ h1, h2⟩)
theorem mk_eq (s : List UInt8) (g : ByteArray) : (⟨s.toArray⟩ : ByteArray) = g ↔ s = g.data.toList := by
  constructor
  · rintro rfl; rfl
  · rintro rfl; rfl
theorem GL_forget (L : List S64) (g : ByteArray) (s : List UInt8) : setG (GL L) g.data.toList 0 s = GL (forgetL L g) s := by
  unfold setG GL
  rw [asked_forget]
  by_cases h : s = g.data.toList
  · rw [if_pos h, if_pos ((mk_eq s g).2 h)]
  · rw [if_neg h, if_neg (fun e => h ((mk_eq s g).1 e))]
theorem GL_choose (L : List S64) (g : ByteArray) (s : List UInt8) : setG (GL L) g.data.toList (GL L g.data.toList + 1) s = GL (forgetL L g ++ [⟨g, askedL L g + 1⟩]) s := by
  unfold setG
  rw [GL_at]
  unfold GL
  rw [asked_append]
  by_cases h : s = g.data.toList
  · have e := (mk_eq s g).2 h
    rw [if_pos h, if_neg (by rw [e]; exact forget_none L g), if_pos e.symm]
  · have e : ¬ (⟨s.toArray⟩ : ByteArray) = g := fun e => h ((mk_eq s g).1 e)
    have e2 : ¬ g = (⟨s.toArray⟩ : ByteArray) := fun x => e x.symm
    have e3 := asked_forget L g ⟨s.toArray⟩
    rw [if_neg e] at e3
    rw [if_neg h]
    by_cases hx : ∃ t ∈ forgetL L g, t.f0 = (⟨s.toArray⟩ : ByteArray)
    · rw [if_pos hx, e3]
    · rw [if_neg hx, if_neg e2, ← e3]
      exact asked_of_none _ _ hx

/-! ### the state of both -/
/-- The reference's picks in block xb: rows that stay read, whatever is written in T. -/
structure RX (w : World) (T : Nat → Prop) (xb : Nat) (wait : List Int) (L : List S64) : Prop where
  st : ∃ A c A' c', w.heap[xb]? = some (.cells #[.slice A wait.length c, .slice A' L.length c'] 47 (0, 0)) ∧ wait.length ≤ c ∧ L.length ≤ c' ∧
    ∀ W, Kept w W T → Kd.C (Kd.int .i64) W A wait.length wait ∧ Kd.C k64 W A' L.length L
structure PX (w0 w : World) (g xb n : Nat) (S : Nat → Prop) (wait : List Int) (G : List UInt8 → Int) (waitx : List Int) (L : List S64) : Prop where
  pk : PK w w0.heap.size g S wait n G
  nx : ¬ S xb
  ox : w0.heap.size ≤ xb
  rx : RX w (fun k => S k ∨ k = xb) xb waitx L
  below : Below w0.heap.size w0 w
section
variable {w0 w w1 : World} {g xb n : Nat} {S : Nat → Prop} {wait waitx : List Int} {G : List UInt8 → Int} {L : List S64}
theorem PX.lt (h : PX w0 w g xb n S wait G waitx L) : xb < w.heap.size := by
  obtain ⟨A, c, A', c', h1, _⟩ := h.rx.st
  exact blk_lt h1
theorem PX.to (h : PX w0 w g xb n S wait G waitx L) (hb : Below w.heap.size w w1) : PX w0 w1 g xb n (fun k => S k ∧ k < w.heap.size) wait G waitx L := by
  obtain ⟨A, c, A', c', h1, h2, h3, h4⟩ := h.rx.st
  refine ⟨(h.pk.mono (fun k hk hl => ⟨hk, hl⟩)).below hb, fun hk => h.nx hk.1, h.ox, ⟨A, c, A', c', (hb.block xb (blk_lt h1)).trans h1, h2, h3, fun W hk => h4 W ?_⟩, h.below.trans (hb.mono h.below.size)⟩
  exact (Kept.of_below hb (fun k => S k ∨ k = xb)).then_ hk (fun k hk => .inl (hk.imp (fun h => h.1) id))
theorem PX.did (h : PX w0 w g xb n S wait G waitx L) {wait' : List Int} {G' : List UInt8 → Int} {n' : Nat} (hp : PK w1 w0.heap.size g (fun k => S k ∨ w.heap.size ≤ k) wait' n' G') (hd : Did w0 w w1 S) : PX w0 w1 g xb n' (fun k => S k ∨ w.heap.size ≤ k) wait' G' waitx L := by
  have hlt := h.lt
  obtain ⟨A, c, A', c', h1, h2, h3, h4⟩ := h.rx.st
  refine ⟨hp, fun hk => hk.elim h.nx (fun h => by omega), h.ox, ⟨A, c, A', c', (hd.kept.2 xb hlt h.nx).trans h1, h2, h3, fun W hk => h4 W ?_⟩, hd.below⟩
  exact (hd.kept.mono (S' := fun k => S k ∨ k = xb) (fun k hk => .inl hk)).then_ hk (fun k hk => by
    rcases hk with (hk | hk) | hk
    · exact .inl (.inl hk)
    · exact .inr hk
    · exact .inl (.inr hk))
end
end Go.Proofs.Ytbcpodbihldfgaa

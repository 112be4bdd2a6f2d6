/- made and Name with rows that are owned. -/
import Derived.Test.YtjlohmhmnghjkaaO2
namespace Go.Proofs.Ytjlohmhmnghjkaa
open Go.RowKit Go.Maps Go.Proofs.YtjlohmhmnghjkaaW.PrintWords Go.Proofs.Ytjlohmhmnghjkaa.PAliasPlays
set_option linter.unusedVariables false

section
variable {w : World} {base g bm most n m : Nat} {F : Nat → Option ByteArray}
def MadePost (w : World) (T : ByteArray) (L : List Int) (e : Ending) (w' : World) : Prop :=
  ∃ u, e = .returned (.agg #[.bool false, .bool false, .int .u8 0, .int .u32 0, u, .string T, .string ⟨#[]⟩]) ∧ Kd.R k61 61 w' w.heap.size (fun _ => True) u (propsOf L) ∧ Below w.heap.size w w'
theorem made_C {A : Option Addr} {c : Nat} {L : List Int} (h : Kd.C (Kd.int .u32) w A L.length L) (hc : L.length ≤ c) (T : ByteArray) : Calls Try.prog 12 #[.agg #[.string T, .slice A L.length c]] w (MadePost w (cutS T 30) L) :=
  (switchboardlaw17_made.calls 4 T A c L _ _ _ _ _ _ _ w h hc (made_f T L 4 (Nat.le_refl _))).mono fun e w' h => h
theorem made_row {b e : Nat} {ok : Nat → Prop} {v : Value} {L : List Int} (h : Kd.R (Kd.int .u32) e w b ok v L) (T : ByteArray) : Calls Try.prog 12 #[.agg #[.string T, v]] w (MadePost w (cutS T 30) L) := by
  obtain ⟨A, c, rfl⟩ := Kd.R_slice h
  obtain ⟨_, h1, h2⟩ := Kd.R_reads' h
  exact made_C h2 h1 T

def OnePost (w : World) (base g bm most n m : Nat) (F : Nat → Option ByteArray) (s : ByteArray) (er : Int) (e : Ending) (w' : World) : Prop :=
  e = .returned (.tuple #[.string s, .int .i64 er]) ∧ TKept w w' base bm ∧ PT w' base g bm most n m F
/-- What the topic's word is: it matters where no alias is out of range, and there is a topic. -/
def wordB (most : Nat) (o : Option Nat) (topic : ByteArray) (b : Bool) : Prop := badO most o ∨ topic.size = 0 ∨ switchboardref10_Name.f 200 topic = some b
theorem stR_b (most : Nat) (F : Nat → Option ByteArray) (o : Option Nat) (topic : ByteArray) (b b' : Bool) (h : badO most o ∨ topic.size = 0 ∨ b = b') : stR most F o topic b = stR most F o topic b' ∧ stS most o topic b = stS most o topic b' := by
  rcases h with ⟨N, rfl, h⟩ | h | rfl
  · simp only [stR, stS, if_pos h, and_self]
  · unfold stR stS
    cases o <;> simp only [if_pos h, and_self]
  · exact ⟨rfl, rfl⟩
theorem tname_row (h : PT w base g bm most n m F) (hbase : base ≤ w.heap.size) (hn : n < 1000000) {b e : Nat} {ok : Nat → Prop} {u : Value} {L : List Int} (hu : Kd.R k61 e w b ok u (propsOf L)) (hL : ∀ x ∈ L, 0 ≤ x ∧ x < 4294967296) (topic pay : ByteArray) (hts : topic.size ≤ 30) (b0 : Bool) (hb0 : wordB most (oOf L) topic b0) :
    Calls Try.prog 11 #[.pointer (some ⟨g, 0, none⟩), .agg #[.bool false, .bool false, .int .u8 0, .int .u32 0, u, .string topic, .string pay]] w (OnePost w base g bm most (n + 1) (stM F m (stS most (oOf L) topic b0)) (stF F (stS most (oOf L) topic b0) topic) (stR most F (oOf L) topic b0).1 (stR most F (oOf L) topic b0).2) := by
  obtain ⟨A, c, rfl⟩ := Kd.R_slice hu
  obtain ⟨_, h1, h2⟩ := Kd.R_reads' hu
  obtain ⟨r1, hg⟩ := get_f L 2 (Nat.le_refl _) (fun x hx => (hL x hx).1)
  refine (tname_all h hbase hn h2 h1 (oOf L) (fun N hN => ?_) hg topic pay (by omega)).mono ?_
  · cases L with
    | nil => cases hN
    | cons x L =>
      have := hL x (by simp)
      simp only [oOf, List.head?_cons, Option.map_some, Option.some.injEq] at hN
      omega
  · rintro e w' ⟨b, hW, rfl, hk, hp⟩
    have hbb : badO most (oOf L) ∨ topic.size = 0 ∨ b = b0 := by
      rcases hb0 with h | h | h
      · exact .inl h
      · exact .inr (.inl h)
      · by_cases h3 : badO most (oOf L)
        · exact .inl h3
        · by_cases h4 : topic.size = 0
          · exact .inr (.inl h4)
          · have := name_f (hW h3 (by omega)) (by omega) 200 (by omega)
            rw [h] at this
            exact .inr (.inr (Option.some.inj this).symm)
    obtain ⟨e1, e2⟩ := stR_b most F (oOf L) topic b b0 hbb
    rw [e2] at hp
    rw [e1]
    exact ⟨rfl, hk, hp⟩
end
end Go.Proofs.Ytjlohmhmnghjkaa

/- (*alias.Table).Name: one contract by cases. -/
import Derived.Test.YtjlohmhmnghjkaaN4
import Derived.Test.YtjlohmhmnghjkaaM
import Derived.Test.YtjlohmhmnghjkaaO1
namespace Go.Proofs.Ytjlohmhmnghjkaa
open Go.RowKit Go.Maps Go.Proofs.YtjlohmhmnghjkaaW.PrintWords Go.Proofs.Ytjlohmhmnghjkaa.PAliasPlays
set_option linter.unusedVariables false

/-- The topic that Name answers, and its error. -/
def stR (most : Nat) (F : Nat → Option ByteArray) (o : Option Nat) (topic : ByteArray) (b : Bool) : ByteArray × Int :=
  match o with
  | some N => if N = 0 ∨ most < N then (⟨#[]⟩, 11) else if topic.size = 0 then ((F N).getD ⟨#[]⟩, if (F N).isSome then 0 else 3) else (if b then topic else ⟨#[]⟩, if b then 0 else 9)
  | none => if topic.size = 0 then (⟨#[]⟩, 3) else (if b then topic else ⟨#[]⟩, if b then 0 else 9)
def badO (most : Nat) (o : Option Nat) : Prop := ∃ N, o = some N ∧ (N = 0 ∨ most < N)
/-- The alias that is set. -/
def stS (most : Nat) (o : Option Nat) (topic : ByteArray) (b : Bool) : Option Nat :=
  match o with
  | some N => if N = 0 ∨ most < N then none else if topic.size = 0 then none else if b then some N else none
  | none => none
def stF (F : Nat → Option ByteArray) (s : Option Nat) (topic : ByteArray) : Nat → Option ByteArray :=
  match s with
  | some N => setF F N topic
  | none => F
def stM (F : Nat → Option ByteArray) (m : Nat) (s : Option Nat) : Nat :=
  match s with
  | some N => if (F N).isSome then m else m + 1
  | none => m
section
variable {w : World} {base g bm most n m : Nat} {F : Nat → Option ByteArray}
def NamePost (w : World) (base g bm most n m : Nat) (F : Nat → Option ByteArray) (o : Option Nat) (topic : ByteArray) (e : Ending) (w' : World) : Prop :=
  ∃ b, (¬ badO most o → 0 < topic.size → NameW topic b) ∧ e = .returned (.tuple #[.string (stR most F o topic b).1, .int .i64 (stR most F o topic b).2]) ∧ TKept w w' base bm ∧ PT w' base g bm most (n + 1) (stM F m (stS most o topic b)) (stF F (stS most o topic b) topic)
theorem PT.more (h : PT w base g bm most n m F) : PT w base g bm most (n + 1) m F := by
  obtain ⟨D, hm, hr⟩ := h.mp
  exact ⟨h.blk, h.bg, h.bb, D, hm.mono (Nat.le_succ n), hr⟩
theorem TKept.of_below {w' : World} (h : Below w.heap.size w w') (hb : base ≤ w.heap.size) : TKept w w' base bm := ⟨h.mono hb, h.size, fun k hk _ => h.block k hk⟩
theorem tname_all (h : PT w base g bm most n m F) (hbase : base ≤ w.heap.size) (hn : n < 1000000) {A : Option Addr} {c k : Nat} {l : List S61} (hl : Kd.C k61 w A l.length l) (hlc : l.length ≤ c) {r1 : Int} {r3 r4 : ByteArray} (o : Option Nat) (ho : ∀ N, o = some N → N < 4294967296)
    (hget : prop_List_Get.f k l 35 = some (r1, ((o.getD 0 : Nat) : Int), r3, r4, o.isSome)) (topic pay : ByteArray) (hts : topic.size < 4294967281) :
    Calls Try.prog 11 #[.pointer (some ⟨g, 0, none⟩), .agg #[.bool false, .bool false, .int .u8 0, .int .u32 0, .slice A l.length c, .string topic, .string pay]] w (NamePost w base g bm most n m F o topic) := by
  cases o with
  | none =>
    by_cases ht : topic.size = 0
    · refine (tname_none h hl hlc hget topic pay ht).mono ?_
      rintro e w' ⟨rfl, hb⟩
      exact ⟨true, fun _ h0 => by omega, by simp only [stR, if_pos ht], .of_below hb hbase, (h.below hb).more⟩
    · refine (tname_plain h hl hlc hget topic pay (by omega) hts).mono ?_
      rintro e w' ⟨b, hW, rfl, hb⟩
      exact ⟨b, fun _ _ => hW, by simp only [stR, if_neg ht], .of_below hb hbase, (h.below hb).more⟩
  | some N =>
    by_cases hbad : N = 0 ∨ most < N
    · refine (tname_alias h hl hlc hget topic pay hbad).mono ?_
      rintro e w' ⟨rfl, hb⟩
      exact ⟨true, fun h0 => absurd ⟨N, rfl, hbad⟩ h0, by simp only [stR, if_pos hbad], .of_below hb hbase, by simp only [stS, if_pos hbad]; exact (h.below hb).more⟩
    · by_cases ht : topic.size = 0
      · refine (tname_look h hl hlc hget topic pay ht (fun e => hbad (.inl e)) (Nat.le_of_not_lt fun e => hbad (.inr e)) (ho N rfl) _ rfl).mono ?_
        rintro e w' ⟨rfl, hb⟩
        exact ⟨true, fun _ h0 => by omega, by simp only [stR, if_neg hbad, if_pos ht]; rfl, .of_below hb hbase, by simp only [stS, if_neg hbad, if_pos ht]; exact (h.below hb).more⟩
      · refine (tname_set h hbase hn hl hlc hget topic pay (by omega) hts (fun e => hbad (.inl e)) (Nat.le_of_not_lt fun e => hbad (.inr e)) (ho N rfl)).mono ?_
        rintro e w' ⟨b, hW, rfl, hk, hp⟩
        refine ⟨b, fun _ _ => hW, by simp only [stR, if_neg hbad, if_neg ht], hk, ?_⟩
        cases b
        · simp only [stS, if_neg hbad, if_neg ht]; exact hp
        · simp only [stS, if_neg hbad, if_neg ht]; exact hp
end
end Go.Proofs.Ytjlohmhmnghjkaa

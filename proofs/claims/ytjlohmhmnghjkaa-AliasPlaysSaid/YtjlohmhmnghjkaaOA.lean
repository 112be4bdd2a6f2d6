/- (*alias.Table).Name: one contract by cases; words of letters; made; awake. -/
import Derived.Test.YtjlohmhmnghjkaaN4
import Derived.Test.YtjlohmhmnghjkaaM
import Derived.Test.YtjlohmhmnghjkaaQ2
namespace Go.Proofs.Ytjlohmhmnghjkaa
open Go.RowKit Go.Maps Go.Proofs.YtjlohmhmnghjkaaW.PrintWords Go.Proofs.Ytjlohmhmnghjkaa.PAliasPlays
set_option linter.unusedVariables false
set_option linter.unusedSimpArgs false

theorem goodW_plain : ∀ l : List UInt8, (∀ x ∈ l, 0 < x.toNat ∧ x.toNat < 128) → GoodW ⟨l.toArray⟩ true
  | [], _ => .nil _ rfl
  | x :: l, h => by
    have hx := h x (by simp)
    have hs : 0 < (⟨(x :: l).toArray⟩ : ByteArray).size := by rw [Lib.size_eq]; simp
    have hb : byteAt ⟨(x :: l).toArray⟩ 0 = x.toNat := by
      rw [byteAt_of (k := 0) hs]
      rfl
    have h1 : SignW ⟨(x :: l).toArray⟩ x.toNat 1 := by
      have := SignW.one (s := ⟨(x :: l).toArray⟩) hs (by omega)
      rwa [hb] at this
    refine .step _ x.toNat 1 true hs h1 (by omega) (by omega) ?_
    rw [extract_from]
    exact goodW_plain l fun y hy => h y (by simp [hy])
theorem countByte_le (c : UInt8) (l : List UInt8) : Lib.countByte l c ≤ l.length := List.count_le_length
theorem signsB_plain (l : List UInt8) (h : ∀ x ∈ l, plusHash.contains x = false) : signsB ⟨l.toArray⟩ = false := by
  unfold signsB
  rw [Lib.indexAny_none (fun j b _ hb => h b (by
    have := List.mem_of_getElem? hb
    simpa using this))]
  rfl
theorem nameW_plain (l : List UInt8) (h0 : 0 < l.length) (h1 : l.length < 32) (h : ∀ x ∈ l, 0 < x.toNat ∧ x.toNat < 128 ∧ plusHash.contains x = false) : NameW ⟨l.toArray⟩ true := by
  have hs : (⟨l.toArray⟩ : ByteArray).size = l.length := by rw [Lib.size_eq]
  refine ⟨true, ⟨true, fun _ => goodW_plain l fun x hx => ⟨(h x hx).1, (h x hx).2.1⟩, fun h => by omega, ?_⟩, ?_⟩
  · rw [decide_eq_true (by omega), decide_eq_true (by have := countByte_le 47 l; show Lib.countByte l 47 < 32; omega)]
    rfl
  · rw [signsB_plain l fun x hx => (h x hx).2.2]
    rfl
theorem nameW_slash_hash : NameW ⟨#[97, 47, 35]⟩ false := by
  refine ⟨true, ⟨true, fun _ => goodW_plain [97, 47, 35] (by decide), fun h => absurd h (by decide), by decide⟩, ?_⟩
  have : signsB ⟨#[97, 47, 35]⟩ = true := by decide
  rw [this]
  rfl
theorem word_of {s : ByteArray} {b : Bool} (h : NameW s b) (hs : s.size ≤ 80) : switchboardref10_Name.f 200 s = some b := name_f h (by omega) 200 (by omega)
def aliasP (n : Int) : S61 := ⟨35, n, ⟨#[]⟩, ⟨#[]⟩⟩
/-- The properties that made gives. -/
def propsOf (L : List Int) : List S61 := (L.take 2).map aliasP
def cutS (T : ByteArray) (n : Nat) : ByteArray := if n < T.size then T.extract 0 n else T
theorem cutS_size (T : ByteArray) (n : Nat) : (cutS T n).size ≤ n := by
  unfold cutS
  split
  · rw [ByteArray.size_extract]; omega
  · omega
theorem cutS_short {T : ByteArray} {n : Nat} (h : T.size ≤ n) : cutS T n = T := if_neg (by omega)
theorem cut_f (T : ByteArray) (n : Nat) : switchboardlaw01_Cut.f T n = some (cutS T n) := by
  unfold switchboardlaw01_Cut.f cutS
  by_cases h : n < T.size
  · rw [if_pos h, if_pos (by omega), if_pos (by omega), if_pos (by omega)]
    rfl
  · rw [if_neg h, if_neg (by omega)]
theorem made_f (T : ByteArray) (L : List Int) (k : Nat) (hk : 4 ≤ k) : switchboardlaw17_made.f k T L = some (false, false, 0, 0, propsOf L, cutS T 30, ⟨#[]⟩) := by
  obtain ⟨k, rfl⟩ : ∃ j, k = j + 4 := ⟨k - 4, by omega⟩
  unfold switchboardlaw17_made.f
  rw [show (30 : Int) = ((30 : Nat) : Int) from rfl, cut_f]
  simp only [Option.bind_some]
  match L with
  | [] => simp [switchboardlaw17_made.l0, propsOf]
  | [a] => simp [switchboardlaw17_made.l0, propsOf, aliasP, wrap64, rd]
  | a :: b :: L =>
    have h0 : (0 : Int) < ((a :: b :: L).length : Int) := by simp only [List.length_cons]; omega
    have h1 : (1 : Int) < ((a :: b :: L).length : Int) := by simp only [List.length_cons]; omega
    have w1 : wrap64 (0 + 1) = 1 := by unfold wrap64; omega
    have w2 : wrap64 (1 + 1) = 2 := by unfold wrap64; omega
    rw [switchboardlaw17_made.l0, if_pos h0, if_pos (by decide), if_pos (by decide), if_pos (by decide), w1,
      switchboardlaw17_made.l0, if_pos h1, if_pos (by decide), if_pos (by decide), if_pos (by simp), w2, switchboardlaw17_made.l0]
    by_cases h2 : (2 : Int) < ((a :: b :: L).length : Int)
    · rw [if_pos h2, if_neg (by decide)]; rfl
    · rw [if_neg h2]; rfl
/-- The alias that a list tells: the first. -/
def oOf (L : List Int) : Option Nat := L.head?.map Int.toNat
theorem get_f (L : List Int) (k : Nat) (hk : 2 ≤ k) (h0 : ∀ x ∈ L, 0 ≤ x) : ∃ r1, prop_List_Get.f k (propsOf L) 35 = some (r1, (((oOf L).getD 0 : Nat) : Int), (⟨#[]⟩ : ByteArray), (⟨#[]⟩ : ByteArray), (oOf L).isSome) := by
  obtain ⟨k, rfl⟩ : ∃ j, k = j + 2 := ⟨k - 2, by omega⟩
  unfold prop_List_Get.f
  match L with
  | [] => exact ⟨0, by simp [prop_List_Get.l0, propsOf, oOf]⟩
  | a :: L =>
    have ha := h0 a (by simp)
    refine ⟨35, ?_⟩
    have e1 : propsOf (a :: L) = aliasP a :: (L.take 1).map aliasP := rfl
    have e2 : rd_T61 (propsOf (a :: L)) 0 = aliasP a := by rw [e1]; rfl
    have e3 : ((oOf (a :: L)).getD 0 : Nat) = a.toNat := rfl
    have e4 : (oOf (a :: L)).isSome = true := rfl
    have hl : (0 : Int) < ((propsOf (a :: L)).length : Int) := by rw [e1, List.length_cons]; omega
    rw [prop_List_Get.l0, if_pos hl, if_pos (by decide), if_pos hl, e2, if_pos (by rfl), e3, e4, Int.toNat_of_nonneg ha]
    rfl
/-- The topic that Name answers, and its error. -/
def stR (most : Nat) (F : Nat → Option ByteArray) (o : Option Nat) (topic : ByteArray) (b : Bool) : ByteArray × Int :=
  match o with
  | some N => if N = 0 ∨ most < N then (⟨#[]⟩, 11) else if topic.size = 0 then ((F N).getD ⟨#[]⟩, if (F N).isSome then 0 else 3) else (if b then topic else ⟨#[]⟩, if b then 0 else 9)
  | none => if topic.size = 0 then (⟨#[]⟩, 3) else (if b then topic else ⟨#[]⟩, if b then 0 else 9)
def badO (most : Nat) (o : Option Nat) : Prop := ∃ N, o = some N ∧ (N = 0 ∨ most < N)
/-- The alias that is set. -/
def stS (most : Nat) (o : Option Nat) (topic : ByteArray) (b : Bool) : Option Nat :=
  match o with
  | some N => if N = 0 ∨ most < N then none else if topic.size = 0 then none else if b then some N else none
  | none => none
def stF (F : Nat → Option ByteArray) (s : Option Nat) (topic : ByteArray) : Nat → Option ByteArray :=
  match s with
  | some N => setF F N topic
  | none => F
def stM (F : Nat → Option ByteArray) (m : Nat) (s : Option Nat) : Nat :=
  match s with
  | some N => if (F N).isSome then m else m + 1
  | none => m
section
variable {w : World} {base g bm most n m : Nat} {F : Nat → Option ByteArray}
def NamePost (w : World) (base g bm most n m : Nat) (F : Nat → Option ByteArray) (o : Option Nat) (topic : ByteArray) (e : Ending) (w' : World) : Prop :=
  ∃ b, (¬ badO most o → 0 < topic.size → NameW topic b) ∧ e = .returned (.tuple #[.string (stR most F o topic b).1, .int .i64 (stR most F o topic b).2]) ∧ TKept w w' base bm ∧ PT w' base g bm most (n + 1) (stM F m (stS most o topic b)) (stF F (stS most o topic b) topic)
theorem PT.more (h : PT w base g bm most n m F) : PT w base g bm most (n + 1) m F := by
  obtain ⟨D, hm, hr⟩ := h.mp
  exact ⟨h.blk, h.bg, h.bb, D, hm.mono (Nat.le_succ n), hr⟩
theorem TKept.of_below {w' : World} (h : Below w.heap.size w w') (hb : base ≤ w.heap.size) : TKept w w' base bm := ⟨h.mono hb, h.size, fun k hk _ => h.block k hk⟩
theorem tname_all (h : PT w base g bm most n m F) (hbase : base ≤ w.heap.size) (hn : n < 1000000) {A : Option Addr} {c k : Nat} {l : List S61} (hl : Kd.C k61 w A l.length l) (hlc : l.length ≤ c) {r1 : Int} {r3 r4 : ByteArray} (o : Option Nat) (ho : ∀ N, o = some N → N < 4294967296)
    (hget : prop_List_Get.f k l 35 = some (r1, ((o.getD 0 : Nat) : Int), r3, r4, o.isSome)) (topic pay : ByteArray) (hts : topic.size < 4294967281) :
    Calls Try.prog 11 #[.pointer (some ⟨g, 0, none⟩), .agg #[.bool false, .bool false, .int .u8 0, .int .u32 0, .slice A l.length c, .string topic, .string pay]] w (NamePost w base g bm most n m F o topic) := by
  cases o with
  | none =>
    by_cases ht : topic.size = 0
    · refine (tname_none h hl hlc hget topic pay ht).mono ?_
      rintro e w' ⟨rfl, hb⟩
      exact ⟨true, fun _ h0 => by omega, by simp only [stR, if_pos ht], .of_below hb hbase, (h.below hb).more⟩
    · refine (tname_plain h hl hlc hget topic pay (by omega) hts).mono ?_
      rintro e w' ⟨b, hW, rfl, hb⟩
      exact ⟨b, fun _ _ => hW, by simp only [stR, if_neg ht], .of_below hb hbase, (h.below hb).more⟩
  | some N =>
    by_cases hbad : N = 0 ∨ most < N
    · refine (tname_alias h hl hlc hget topic pay hbad).mono ?_
      rintro e w' ⟨rfl, hb⟩
      exact ⟨true, fun h0 => absurd ⟨N, rfl, hbad⟩ h0, by simp only [stR, if_pos hbad], .of_below hb hbase, by simp only [stS, if_pos hbad]; exact (h.below hb).more⟩
    · by_cases ht : topic.size = 0
      · refine (tname_look h hl hlc hget topic pay ht (fun e => hbad (.inl e)) (Nat.le_of_not_lt fun e => hbad (.inr e)) (ho N rfl) _ rfl).mono ?_
        rintro e w' ⟨rfl, hb⟩
        exact ⟨true, fun _ h0 => by omega, by simp only [stR, if_neg hbad, if_pos ht]; rfl, .of_below hb hbase, by simp only [stS, if_neg hbad, if_pos ht]; exact (h.below hb).more⟩
      · refine (tname_set h hbase hn hl hlc hget topic pay (by omega) hts (fun e => hbad (.inl e)) (Nat.le_of_not_lt fun e => hbad (.inr e)) (ho N rfl)).mono ?_
        rintro e w' ⟨b, hW, rfl, hk, hp⟩
        refine ⟨b, fun _ _ => hW, by simp only [stR, if_neg hbad, if_neg ht], hk, ?_⟩
        cases b
        · simp only [stS, if_neg hbad, if_neg ht]; exact hp
        · simp only [stS, if_neg hbad, if_neg ht]; exact hp
end
section
variable {w : World} {base g bm most n m : Nat} {F : Nat → Option ByteArray}
def MadePost (w : World) (T : ByteArray) (L : List Int) (e : Ending) (w' : World) : Prop :=
  ∃ u, e = .returned (.agg #[.bool false, .bool false, .int .u8 0, .int .u32 0, u, .string T, .string ⟨#[]⟩]) ∧ Kd.R k61 61 w' w.heap.size (fun _ => True) u (propsOf L) ∧ Below w.heap.size w w'
theorem made_C {A : Option Addr} {c : Nat} {L : List Int} (h : Kd.C (Kd.int .u32) w A L.length L) (hc : L.length ≤ c) (T : ByteArray) : Calls Try.prog 12 #[.agg #[.string T, .slice A L.length c]] w (MadePost w (cutS T 30) L) :=
  (switchboardlaw17_made.calls 4 T A c L _ _ _ _ _ _ _ w h hc (made_f T L 4 (Nat.le_refl _))).mono fun e w' h => h
theorem made_row {b e : Nat} {ok : Nat → Prop} {v : Value} {L : List Int} (h : Kd.R (Kd.int .u32) e w b ok v L) (T : ByteArray) : Calls Try.prog 12 #[.agg #[.string T, v]] w (MadePost w (cutS T 30) L) := by
  obtain ⟨A, c, rfl⟩ := Kd.R_slice h
  obtain ⟨_, h1, h2⟩ := Kd.R_reads' h
  exact made_C h2 h1 T

def OnePost (w : World) (base g bm most n m : Nat) (F : Nat → Option ByteArray) (s : ByteArray) (er : Int) (e : Ending) (w' : World) : Prop :=
  e = .returned (.tuple #[.string s, .int .i64 er]) ∧ TKept w w' base bm ∧ PT w' base g bm most n m F
/-- What the topic's word is: it matters where no alias is out of range, and there is a topic. -/
def wordB (most : Nat) (o : Option Nat) (topic : ByteArray) (b : Bool) : Prop := badO most o ∨ topic.size = 0 ∨ switchboardref10_Name.f 200 topic = some b
theorem stR_b (most : Nat) (F : Nat → Option ByteArray) (o : Option Nat) (topic : ByteArray) (b b' : Bool) (h : badO most o ∨ topic.size = 0 ∨ b = b') : stR most F o topic b = stR most F o topic b' ∧ stS most o topic b = stS most o topic b' := by
  rcases h with ⟨N, rfl, h⟩ | h | rfl
  · simp only [stR, stS, if_pos h, and_self]
  · unfold stR stS
    cases o <;> simp only [if_pos h, and_self]
  · exact ⟨rfl, rfl⟩
theorem tname_row (h : PT w base g bm most n m F) (hbase : base ≤ w.heap.size) (hn : n < 1000000) {b e : Nat} {ok : Nat → Prop} {u : Value} {L : List Int} (hu : Kd.R k61 e w b ok u (propsOf L)) (hL : ∀ x ∈ L, 0 ≤ x ∧ x < 4294967296) (topic pay : ByteArray) (hts : topic.size ≤ 30) (b0 : Bool) (hb0 : wordB most (oOf L) topic b0) :
    Calls Try.prog 11 #[.pointer (some ⟨g, 0, none⟩), .agg #[.bool false, .bool false, .int .u8 0, .int .u32 0, u, .string topic, .string pay]] w (OnePost w base g bm most (n + 1) (stM F m (stS most (oOf L) topic b0)) (stF F (stS most (oOf L) topic b0) topic) (stR most F (oOf L) topic b0).1 (stR most F (oOf L) topic b0).2) := by
  obtain ⟨A, c, rfl⟩ := Kd.R_slice hu
  obtain ⟨_, h1, h2⟩ := Kd.R_reads' hu
  obtain ⟨r1, hg⟩ := get_f L 2 (Nat.le_refl _) (fun x hx => (hL x hx).1)
  refine (tname_all h hbase hn h2 h1 (oOf L) (fun N hN => ?_) hg topic pay (by omega)).mono ?_
  · cases L with
    | nil => cases hN
    | cons x L =>
      have := hL x (by simp)
      simp only [oOf, List.head?_cons, Option.map_some, Option.some.injEq] at hN
      omega
  · rintro e w' ⟨b, hW, rfl, hk, hp⟩
    have hbb : badO most (oOf L) ∨ topic.size = 0 ∨ b = b0 := by
      rcases hb0 with h | h | h
      · exact .inl h
      · exact .inr (.inl h)
      · by_cases h3 : badO most (oOf L)
        · exact .inl h3
        · by_cases h4 : topic.size = 0
          · exact .inr (.inl h4)
          · have := name_f (hW h3 (by omega)) (by omega) 200 (by omega)
            rw [h] at this
            exact .inr (.inr (Option.some.inj this).symm)
    obtain ⟨e1, e2⟩ := stR_b most F (oOf L) topic b b0 hbb
    rw [e2] at hp
    rw [e1]
    exact ⟨rfl, hk, hp⟩
end
/-- A walk's world: the table made behind w0, and all of w0 as it was. -/
structure TS (w0 W : World) (g bm most n m : Nat) (F : Nat → Option ByteArray) : Prop where
  pt : PT W w0.heap.size g bm most n m F
  below : Below w0.heap.size w0 W
section
variable {w0 W W1 : World} {g bm most n m : Nat} {F : Nat → Option ByteArray}
theorem TS.to (h : TS w0 W g bm most n m F) (hb : Below W.heap.size W W1) : TS w0 W1 g bm most n m F := ⟨h.pt.below hb, h.below.trans (hb.mono h.below.size)⟩
theorem TS.lit (h : TS w0 W g bm most n m F) {b : Nat} (hb : Below b W W1) (e : b = W.heap.size) : TS w0 W1 g bm most n m F := h.to (e ▸ hb)
theorem TS.name (h : TS w0 W g bm most n m F) {n' m' : Nat} {F' : Nat → Option ByteArray} (hk : TKept W W1 w0.heap.size bm) (hp : PT W1 w0.heap.size g bm most n' m' F') : TS w0 W1 g bm most n' m' F' := ⟨hp, h.below.trans hk.below⟩
/-- One call of Name on what made gave. -/
theorem TS.one (h : TS w0 W g bm most n m F) (hn : n < 1000000) {b e : Nat} {ok : Nat → Prop} {u : Value} {L : List Int} (hu : Kd.R k61 e W b ok u (propsOf L)) (hL : ∀ x ∈ L, 0 ≤ x ∧ x < 4294967296) (topic : ByteArray) (hts : topic.size ≤ 30) (b0 : Bool) (hb0 : wordB most (oOf L) topic b0)
    {s : ByteArray} {er : Int} {m' : Nat} {F' : Nat → Option ByteArray} (hr : stR most F (oOf L) topic b0 = (s, er)) (hm : stM F m (stS most (oOf L) topic b0) = m') (hF : stF F (stS most (oOf L) topic b0) topic = F') :
    Calls Try.prog 11 #[.pointer (some ⟨g, 0, none⟩), .agg #[.bool false, .bool false, .int .u8 0, .int .u32 0, u, .string topic, .string ⟨#[]⟩]] W fun e W1 => e = .returned (.tuple #[.string s, .int .i64 er]) ∧ TS w0 W1 g bm most (n + 1) m' F' ∧ TKept W W1 w0.heap.size bm := by
  refine (tname_row h.pt h.below.size hn hu hL topic ⟨#[]⟩ hts b0 hb0).mono ?_
  rintro e W1 ⟨rfl, hk, hp⟩
  rw [hr, hm, hF] at *
  exact ⟨rfl, h.name hk hp, hk⟩
end
def nF : Nat → Option ByteArray := fun _ => none
theorem word_a : switchboardref10_Name.f 200 ⟨#[97]⟩ = some true := word_of (nameW_plain [97] (by decide) (by decide) (by decide)) (by decide)
theorem word_x : switchboardref10_Name.f 200 ⟨#[120]⟩ = some true := word_of (nameW_plain [120] (by decide) (by decide) (by decide)) (by decide)
set_option maxHeartbeats 4000000 in
set_option maxRecDepth 100000 in
theorem awake_calls (w : World) : Calls Try.prog 9 #[] w fun e w' => e = .returned (.bool true) ∧ Below w.heap.size w w' := by
  have c30 : cutS ⟨#[97]⟩ 30 = ⟨#[97]⟩ := cutS_short (by decide)
  have c31 : cutS ⟨#[120]⟩ 30 = ⟨#[120]⟩ := cutS_short (by decide)
  have c32 : cutS ⟨#[]⟩ 30 = ⟨#[]⟩ := cutS_short (by decide)
  have HC30 := Lib.hid c30
  have HC31 := Lib.hid c31
  have HC32 := Lib.hid c32
  clear c30 c31 c32
  go_enter Try.func9, Try.ntmps9
  go_wp2_with (first
    | (go_at_call 8; refine (tnew_calls _ 5).mono ?_; rintro e w1 hp; obtain ⟨g, bm, rfl, hpt, hb⟩ := hp; have HS : Hid (TS w w1 g bm 5 0 0 nF) := Lib.hid ⟨hpt, hb⟩; clear hpt hb)
    | ((with_reducible refine gate_dst (N := 15) rfl ?_); refine Kd.R_lit (Kd.int .u32) _ 22 ?hg (N := 15) ?hd (xs := ([1] : List Int)) (inner := [.int .u32 1]) (ok := fun _ => True) (okp := fun _ => True) ?hr ?hp (fun _ hk => hk) trivial (Below.refl _ _) (Nat.le_refl _) (by simp) ?_; (case hd => rfl); (case hg => rfl); (case hr => first | (go_simp; done) | (go_simp; rfl)); (case hp => exact (Reps.one (show Kd.M (Kd.int .u32) _ _ _ (1) [.int .u32 (1)] from rfl) (Reps.none _ _))); intro v15 w3 ho hb _ _; obtain ⟨A15, c15, rfl⟩ := Kd.R_slice ho; have HR15 := Lib.hid ho; have HS0 := Lib.hid (HS.out.to hb); clear HS ho hb; have HS := HS0; clear HS0)
    | (go_at_call 12; refine (made_row HR15.out ⟨#[97]⟩).mono ?_; rw [HC30.out]; rintro e w4 hp; obtain ⟨u15, rfl, hu, hb⟩ := hp; have HU15 := Lib.hid hu; have HS0 := Lib.hid (HS.out.to hb); clear HS hu hb HR15; have HS := HS0; clear HS0)
    | (go_at_call 11; refine (HS.out.one (by decide) HU15.out (by decide) ⟨#[97]⟩ (by decide) true (.inr (.inr word_a)) (s := ⟨#[97]⟩) (er := 0) (m' := 1) (F' := (setF nF 1 ⟨#[97]⟩)) rfl rfl rfl).mono ?_; rintro e w5 ⟨rfl, hs, _⟩; have HS0 := Lib.hid hs; clear HS hs HU15; have HS := HS0; clear HS0)
    | ((with_reducible refine gate_dst (N := 23) rfl ?_); refine Kd.R_lit (Kd.int .u32) _ 22 ?hg (N := 23) ?hd (xs := ([1] : List Int)) (inner := [.int .u32 1]) (ok := fun _ => True) (okp := fun _ => True) ?hr ?hp (fun _ hk => hk) trivial (Below.refl _ _) (Nat.le_refl _) (by simp) ?_; (case hd => rfl); (case hg => rfl); (case hr => first | (go_simp; done) | (go_simp; rfl)); (case hp => exact (Reps.one (show Kd.M (Kd.int .u32) _ _ _ (1) [.int .u32 (1)] from rfl) (Reps.none _ _))); intro v23 w3 ho hb _ _; obtain ⟨A23, c23, rfl⟩ := Kd.R_slice ho; have HR23 := Lib.hid ho; have HS0 := Lib.hid (HS.out.to hb); clear HS ho hb; have HS := HS0; clear HS0)
    | (go_at_call 12; refine (made_row HR23.out ⟨#[]⟩).mono ?_; rw [HC32.out]; rintro e w4 hp; obtain ⟨u23, rfl, hu, hb⟩ := hp; have HU23 := Lib.hid hu; have HS0 := Lib.hid (HS.out.to hb); clear HS hu hb HR23; have HS := HS0; clear HS0)
    | (go_at_call 11; refine (HS.out.one (by decide) HU23.out (by decide) ⟨#[]⟩ (by decide) true (.inr (.inl rfl)) (s := ⟨#[97]⟩) (er := 0) (m' := 1) (F' := (setF nF 1 ⟨#[97]⟩)) rfl rfl rfl).mono ?_; rintro e w5 ⟨rfl, hs, _⟩; have HS0 := Lib.hid hs; clear HS hs HU23; have HS := HS0; clear HS0)
    | ((with_reducible refine gate_dst (N := 31) rfl ?_); refine Kd.R_lit (Kd.int .u32) _ 22 ?hg (N := 31) ?hd (xs := ([2] : List Int)) (inner := [.int .u32 2]) (ok := fun _ => True) (okp := fun _ => True) ?hr ?hp (fun _ hk => hk) trivial (Below.refl _ _) (Nat.le_refl _) (by simp) ?_; (case hd => rfl); (case hg => rfl); (case hr => first | (go_simp; done) | (go_simp; rfl)); (case hp => exact (Reps.one (show Kd.M (Kd.int .u32) _ _ _ (2) [.int .u32 (2)] from rfl) (Reps.none _ _))); intro v31 w3 ho hb _ _; obtain ⟨A31, c31, rfl⟩ := Kd.R_slice ho; have HR31 := Lib.hid ho; have HS0 := Lib.hid (HS.out.to hb); clear HS ho hb; have HS := HS0; clear HS0)
    | (go_at_call 12; refine (made_row HR31.out ⟨#[]⟩).mono ?_; rw [HC32.out]; rintro e w4 hp; obtain ⟨u31, rfl, hu, hb⟩ := hp; have HU31 := Lib.hid hu; have HS0 := Lib.hid (HS.out.to hb); clear HS hu hb HR31; have HS := HS0; clear HS0)
    | (go_at_call 11; refine (HS.out.one (by decide) HU31.out (by decide) ⟨#[]⟩ (by decide) true (.inr (.inl rfl)) (s := ⟨#[]⟩) (er := 3) (m' := 1) (F' := (setF nF 1 ⟨#[97]⟩)) rfl rfl rfl).mono ?_; rintro e w5 ⟨rfl, hs, _⟩; have HS0 := Lib.hid hs; clear HS hs HU31; have HS := HS0; clear HS0)
    | ((with_reducible refine gate_dst (N := 39) rfl ?_); refine Kd.R_lit (Kd.int .u32) _ 22 ?hg (N := 39) ?hd (xs := ([6] : List Int)) (inner := [.int .u32 6]) (ok := fun _ => True) (okp := fun _ => True) ?hr ?hp (fun _ hk => hk) trivial (Below.refl _ _) (Nat.le_refl _) (by simp) ?_; (case hd => rfl); (case hg => rfl); (case hr => first | (go_simp; done) | (go_simp; rfl)); (case hp => exact (Reps.one (show Kd.M (Kd.int .u32) _ _ _ (6) [.int .u32 (6)] from rfl) (Reps.none _ _))); intro v39 w3 ho hb _ _; obtain ⟨A39, c39, rfl⟩ := Kd.R_slice ho; have HR39 := Lib.hid ho; have HS0 := Lib.hid (HS.out.to hb); clear HS ho hb; have HS := HS0; clear HS0)
    | (go_at_call 12; refine (made_row HR39.out ⟨#[120]⟩).mono ?_; rw [HC31.out]; rintro e w4 hp; obtain ⟨u39, rfl, hu, hb⟩ := hp; have HU39 := Lib.hid hu; have HS0 := Lib.hid (HS.out.to hb); clear HS hu hb HR39; have HS := HS0; clear HS0)
    | (go_at_call 11; refine (HS.out.one (by decide) HU39.out (by decide) ⟨#[120]⟩ (by decide) true (.inr (.inr word_x)) (s := ⟨#[]⟩) (er := 11) (m' := 1) (F' := (setF nF 1 ⟨#[97]⟩)) rfl rfl rfl).mono ?_; rintro e w5 ⟨rfl, hs, _⟩; have HS0 := Lib.hid hs; clear HS hs HU39; have HS := HS0; clear HS0))


  go_ret
  exact ⟨rfl, HS.out.below⟩
theorem TS.new {w w1 : World} {g bm most : Nat} {F : Nat → Option ByteArray} (h : PT w1 w.heap.size g bm most 0 0 F) (hb : Below w.heap.size w w1) : TS w w1 g bm most 0 0 F := ⟨h, hb⟩
theorem u32_bounds {n : Int} (h : (Lit.int .u32 n).wf = true) : 0 ≤ n ∧ n < 4294967296 := by
  simp only [Lit.wf, IntKind.min, IntKind.max, IntKind.signed, IntKind.bits, Bool.and_eq_true, decide_eq_true_eq] at h
  simp at h
  omega

/-- One call of Name on what made gave, whatever the topic. -/
def AnyPost (w0 W : World) (g bm most n m : Nat) (F : Nat → Option ByteArray) (o : Option Nat) (topic : ByteArray) (e : Ending) (W1 : World) : Prop :=
  ∃ (b : Bool) (s : ByteArray) (er : Int), wordB most o topic b ∧ stR most F o topic b = (s, er) ∧ e = .returned (.tuple #[.string s, .int .i64 er]) ∧ TS w0 W1 g bm most (n + 1) (stM F m (stS most o topic b)) (stF F (stS most o topic b) topic) ∧ TKept W W1 w0.heap.size bm
theorem TS.any {w0 W : World} {g bm most n m : Nat} {F : Nat → Option ByteArray} (h : TS w0 W g bm most n m F) (hn : n < 1000000) {b e : Nat} {ok : Nat → Prop} {u : Value} {L : List Int} (hu : Kd.R k61 e W b ok u (propsOf L)) (hL : ∀ x ∈ L, 0 ≤ x ∧ x < 4294967296) (topic : ByteArray) (hts : topic.size ≤ 30) :
    Calls Try.prog 11 #[.pointer (some ⟨g, 0, none⟩), .agg #[.bool false, .bool false, .int .u8 0, .int .u32 0, u, .string topic, .string ⟨#[]⟩]] W (AnyPost w0 W g bm most n m F (oOf L) topic) := by
  obtain ⟨A, c, rfl⟩ := Kd.R_slice hu
  obtain ⟨_, h1, h2⟩ := Kd.R_reads' hu
  obtain ⟨r1, hg⟩ := get_f L 2 (Nat.le_refl _) (fun x hx => (hL x hx).1)
  refine (tname_all h.pt h.below.size hn h2 h1 (oOf L) (fun N hN => ?_) hg topic ⟨#[]⟩ (by omega)).mono ?_
  · cases L with
    | nil => cases hN
    | cons x L =>
      have := hL x (by simp)
      simp only [oOf, List.head?_cons, Option.map_some, Option.some.injEq] at hN
      omega
  · rintro e w' ⟨b, hW, rfl, hk, hp⟩
    refine ⟨b, _, _, ?_, rfl, rfl, h.name hk hp, hk⟩
    by_cases h3 : badO most (oOf L)
    · exact .inl h3
    · by_cases h4 : topic.size = 0
      · exact .inr (.inl h4)
      · exact .inr (.inr (name_f (hW h3 (by omega)) (by omega) 200 (by omega)))
end Go.Proofs.Ytjlohmhmnghjkaa

/- Parts of a proof about aliases: J1, J2, J3, J4, J6. -/
import Derived.Test.YtbfgpkogginmjaaGreatDoorZ20
import Derived.Test.YtbfgpkogginmjaaGreatDoorZ41
import Derived.Test.YtbfgpkogginmjaaGreatDoorZ42
import Derived.Test.YtbfgpkogginmjaaGreatDoorZ43
section
namespace Go.Proofs.YtbfgpkogginmjaaGreatDoor
open Go.RowKit Go.Lib Go.Proofs.YtbfgpkogginmjaaGreatDoorW.PrintWords Go.Proofs.YtbfgpkogginmjaaGreatDoor.PSwitchboardGreat
set_option linter.unusedSectionVars false
variable [LawBase]
set_option linter.unusedVariables false
set_option linter.unusedSimpArgs false
set_option maxRecDepth 1000000
set_option maxHeartbeats 1600000
theorem pub_asc : Asc pubS := by
  intro x hx
  have h : x ∈ ([112, 117, 98] : List UInt8) := hx
  simp only [List.mem_cons, List.not_mem_nil, or_false] at h
  rcases h with rfl | rfl | rfl <;> decide
theorem sub_asc : Asc subS := by
  intro x hx
  have h : x ∈ ([115, 117, 98] : List UInt8) := hx
  simp only [List.mem_cons, List.not_mem_nil, or_false] at h
  rcases h with rfl | rfl | rfl <;> decide
theorem conF_len (id : ByteArray) (h : id.size ≤ 100) : (frB 1 0 (conB id)).length ≤ 200 := by
  rw [frB_size, conB_size]
  have := varU_len5 (id.size + 13) (by omega)
  omega
def J0S (hb : Nat) (lo : Nat → Nat) (rm : Nat) (mv : MO) (tM : TypeId) (Z : List (Nat × Obj)) (ci rd am tb l inn win pool que s : Nat) : List (Nat × Obj) := ConS hb lo ((#[] : Array MapEntry).push ⟨.int .i64 0, .pointer (some ⟨ci, 0, none⟩), 0⟩) ((#[] : Array MapEntry).push ⟨.int .i64 0, .pointer (some ⟨l, 0, none⟩), 0⟩) #[] #[] (0 + 1) (0 + 1) 0 0 mp0 0 rm (.map ((#[] : Array MapEntry).push ⟨.int .i64 0, .int .i64 (ckS.size : Nat), 0⟩) (0 + 1)) mv tM 0 ci rd am tb l (0 + (frB 1 0 (conB pubS)).length) pubS [] Z inn win pool que s
def J0P (hb : Nat) (lo : Nat → Nat) (rm : Nat) (mv : MO) (tM : TypeId) (Z : List (Nat × Obj)) (e : Ending) (w' : World) : Prop := ∃ ci rd am tb l inn win pool que s, e = .returned (.bool true) ∧ Held w' (J0S hb lo rm mv tM Z ci rd am tb l inn win pool que s)
theorem jo0_calls {w : World} {hb rm : Nat} {lo : Nat → Nat} {mv : MO} {tM : TypeId} {Z : List (Nat × Obj)} (H : Held w (hB hb lo mp0 mp0 mp0 mp0 mp0 0 rm mp0 mv tM Z)) : Calls Tryz.prog 6 #[houV hb rm, .int .i64 0, .string pubS, .slice none 0 0] w (J0P hb lo rm mv tM Z) := by
  refine join_calls (esN := #[]) (esL := #[]) (es2 := #[]) (es3 := #[]) (esR := #[]) (kN := 0) (kL := 0) (k2 := 0) (k3 := 0) (kR := 0) H fN0 (fun v => pN0 v 0) fN0 (fun v => pN0 v 0) fN0 fS0 (fun v => pS0 v 0) fS0 pub_asc (by decide) (by decide) (fun W x y mR ci rd am tb l inn win pool que s hW => ?_)
  have h := pump_one hW (i0 := 0) (i1 := 5) (i2 := 4) (is0 := 32) (iw0 := 30) (iq0 := 31) rfl rfl rfl (pS0 _ _) rfl rfl rfl
  rw [set_same (show (ConS hb lo ((#[] : Array MapEntry).push ⟨.int .i64 0, .pointer (some ⟨ci, 0, none⟩), 0⟩) ((#[] : Array MapEntry).push ⟨.int .i64 0, .pointer (some ⟨l, 0, none⟩), 0⟩) #[] #[] (0 + 1) (0 + 1) 0 0 mp0 0 rm mR mv tM 0 ci rd am tb l (0 + (frB 1 0 (conB pubS)).length) pubS [] (x :: y :: Z) inn win pool que s)[31]? = some (que, queO (.slice none 0 0)) from rfl)] at h
  exact h
def J1S (hb : Nat) (lo : Nat → Nat) (rm : Nat) (mv : MO) (tM : TypeId) (Z : List (Nat × Obj)) (ci rd am tb l inn win pool que s ci1 rd1 am1 tb1 l1 inn1 win1 pool1 que1 s1 : Nat) : List (Nat × Obj) := ConS hb lo ((((#[] : Array MapEntry).push ⟨.int .i64 0, .pointer (some ⟨ci, 0, none⟩), 0⟩)).push ⟨.int .i64 1, .pointer (some ⟨ci1, 0, none⟩), 1⟩) ((((#[] : Array MapEntry).push ⟨.int .i64 0, .pointer (some ⟨l, 0, none⟩), 0⟩)).push ⟨.int .i64 1, .pointer (some ⟨l1, 0, none⟩), 1⟩) ((#[] : Array MapEntry).push ⟨.string pubS, .pointer (some ⟨s, 0, none⟩), 0⟩) ((#[] : Array MapEntry).push ⟨.string pubS, .pointer (some ⟨l, 0, none⟩), 0⟩) (0 + 1 + 1) (0 + 1 + 1) (0 + 1) (0 + 1) mp0 0 rm (.map ((((#[] : Array MapEntry).push ⟨.int .i64 0, .int .i64 (ckS.size : Nat), 0⟩)).push ⟨.int .i64 1, .int .i64 (ckS.size : Nat), 1⟩) (0 + 1 + 1)) mv tM 1 ci1 rd1 am1 tb1 l1 (0 + (frB 1 0 (conB subS)).length) subS [] (lnB 0 ci rd am tb l (0 + (frB 1 0 (conB pubS)).length) ⟨#[]⟩ (toB (frB 2 0 ckB)) pubS [] true (seB pubS inn win pool que s (.slice none 0 0) Z)) inn1 win1 pool1 que1 s1
def J1P (hb : Nat) (lo : Nat → Nat) (rm : Nat) (mv : MO) (tM : TypeId) (Z : List (Nat × Obj)) (ci rd am tb l inn win pool que s : Nat) (e : Ending) (w' : World) : Prop := ∃ ci1 rd1 am1 tb1 l1 inn1 win1 pool1 que1 s1, e = .returned (.bool true) ∧ Held w' (J1S hb lo rm mv tM Z ci rd am tb l inn win pool que s ci1 rd1 am1 tb1 l1 inn1 win1 pool1 que1 s1)
theorem jo1_calls {w : World} {hb rm : Nat} {lo : Nat → Nat} {mv : MO} {tM : TypeId} {Z : List (Nat × Obj)} {ci rd am tb l inn win pool que s : Nat} (H : Held w (J0S hb lo rm mv tM Z ci rd am tb l inn win pool que s)) : Calls Tryz.prog 6 #[houV hb rm, .int .i64 1, .string subS, .slice none 0 0] w (J1P hb lo rm mv tM Z ci rd am tb l inn win pool que s) := by
  refine join_calls (esN := ((#[] : Array MapEntry).push ⟨.int .i64 0, .pointer (some ⟨ci, 0, none⟩), 0⟩)) (esL := ((#[] : Array MapEntry).push ⟨.int .i64 0, .pointer (some ⟨l, 0, none⟩), 0⟩)) (es2 := ((#[] : Array MapEntry).push ⟨.string pubS, .pointer (some ⟨s, 0, none⟩), 0⟩)) (es3 := ((#[] : Array MapEntry).push ⟨.string pubS, .pointer (some ⟨l, 0, none⟩), 0⟩)) (esR := ((#[] : Array MapEntry).push ⟨.int .i64 0, .int .i64 (ckS.size : Nat), 0⟩)) (kN := 0 + 1) (kL := 0 + 1) (k2 := 0 + 1) (k3 := 0 + 1) (kR := 0 + 1) (Z := (lnB 0 ci rd am tb l (0 + (frB 1 0 (conB pubS)).length) ⟨#[]⟩ (toB (frB 2 0 ckB)) pubS [] true (seB pubS inn win pool que s (.slice none 0 0) Z))) H (fN1 _ _) (fun v => pN1 _ v _ _) (fN1 _ _) (fun v => pN1 _ v _ _) (fN1 _ _) (fS1 _ _) (fun v => pS1 _ v _ _) (fS1 _ _) sub_asc (by decide) (by decide) (fun W x y mR ci1 rd1 am1 tb1 l1 inn1 win1 pool1 que1 s1 hW => ?_)
  have h := pump_two hW (i0 := 0) (i1 := 5) (i2 := 4) (is0 := 42) (iw0 := 40) (iq0 := 41) (is1 := 32) (iw1 := 30) (iq1 := 31) (by decide) rfl rfl rfl (pS10 _ _ _ _) rfl rfl rfl (pS1 _ _ _ _) rfl rfl rfl
  rw [set_same (show (ConS hb lo ((((#[] : Array MapEntry).push ⟨.int .i64 0, .pointer (some ⟨ci, 0, none⟩), 0⟩)).push ⟨.int .i64 1, .pointer (some ⟨ci1, 0, none⟩), 1⟩) ((((#[] : Array MapEntry).push ⟨.int .i64 0, .pointer (some ⟨l, 0, none⟩), 0⟩)).push ⟨.int .i64 1, .pointer (some ⟨l1, 0, none⟩), 1⟩) ((#[] : Array MapEntry).push ⟨.string pubS, .pointer (some ⟨s, 0, none⟩), 0⟩) ((#[] : Array MapEntry).push ⟨.string pubS, .pointer (some ⟨l, 0, none⟩), 0⟩) (0 + 1 + 1) (0 + 1 + 1) (0 + 1) (0 + 1) mp0 0 rm mR mv tM 1 ci1 rd1 am1 tb1 l1 (0 + (frB 1 0 (conB subS)).length) subS [] (x :: y :: (lnB 0 ci rd am tb l (0 + (frB 1 0 (conB pubS)).length) ⟨#[]⟩ (toB (frB 2 0 ckB)) pubS [] true (seB pubS inn win pool que s (.slice none 0 0) Z))) inn1 win1 pool1 que1 s1)[41]? = some (que, queO (.slice none 0 0)) from rfl), set_same (show (ConS hb lo ((((#[] : Array MapEntry).push ⟨.int .i64 0, .pointer (some ⟨ci, 0, none⟩), 0⟩)).push ⟨.int .i64 1, .pointer (some ⟨ci1, 0, none⟩), 1⟩) ((((#[] : Array MapEntry).push ⟨.int .i64 0, .pointer (some ⟨l, 0, none⟩), 0⟩)).push ⟨.int .i64 1, .pointer (some ⟨l1, 0, none⟩), 1⟩) ((#[] : Array MapEntry).push ⟨.string pubS, .pointer (some ⟨s, 0, none⟩), 0⟩) ((#[] : Array MapEntry).push ⟨.string pubS, .pointer (some ⟨l, 0, none⟩), 0⟩) (0 + 1 + 1) (0 + 1 + 1) (0 + 1) (0 + 1) mp0 0 rm mR mv tM 1 ci1 rd1 am1 tb1 l1 (0 + (frB 1 0 (conB subS)).length) subS [] (x :: y :: (lnB 0 ci rd am tb l (0 + (frB 1 0 (conB pubS)).length) ⟨#[]⟩ (toB (frB 2 0 ckB)) pubS [] true (seB pubS inn win pool que s (.slice none 0 0) Z))) inn1 win1 pool1 que1 s1)[31]? = some (que1, queO (.slice none 0 0)) from rfl)] at h
  exact h
def hdS : ByteArray := ckS ++ toB (frB 9 0 suakB)
theorem hdS_size : hdS.size = 22 := by
  unfold hdS
  rw [ByteArray.size_append, ckS_size, suakT_size]
def MRead (o : Obj) (m : Nat) : Prop := ∃ es k, o = .map es k ∧ Instr.findNow (.int .i64) (.int .i64 1) es.toList 0 = some (some (1, .int .i64 (m : Nat))) ∧ (es[1]?).map (·.key) = some (.int .i64 1)
def AskQ (hb rm : Nat) (mv : MO) (Z : List (Nat × Obj)) (e : Ending) (w' : World) : Prop := ∃ (p : PP) (came0 : Nat), e = .returned (.tuple #[]) ∧ p.Ok ∧ p.hb = hb ∧ p.rm = rm ∧ p.mv = mv ∧ MRead p.mR hdS.size ∧ came0 ≤ 1000 ∧ Held w' (FS p came0 ⟨#[]⟩ hdS [] (.slice none 0 0) (.slice none 0 0) Z)
theorem mread_1 (v0 v1 : Value) (k j m : Nat) : MRead (.map (((((#[] : Array MapEntry).push ⟨.int .i64 0, v0, k⟩).push ⟨.int .i64 1, v1, j⟩)).modify 1 (fun e => { e with key := .int .i64 1, val := .int .i64 (m : Nat) })) 2) m := ⟨_, _, rfl, rfl, rfl⟩
theorem askq_calls {w : World} {hb rm : Nat} {lo : Nat → Nat} {mv : MO} {tM : TypeId} {Z : List (Nat × Obj)} {ci rd am tb l inn win pool que s ci1 rd1 am1 tb1 l1 inn1 win1 pool1 que1 s1 : Nat} (H : Held w (J1S hb lo rm mv tM Z ci rd am tb l inn win pool que s ci1 rd1 am1 tb1 l1 inn1 win1 pool1 que1 s1)) : Calls Tryz.prog 7 #[houV hb rm, .int .i64 1, .string ⟨#[35]⟩, .int .u8 0] w (AskQ hb rm mv Z) := by
  refine (ask_calls1 (tM := tM) (es := (((#[] : Array MapEntry).push ⟨.string pubS, .pointer (some ⟨s, 0, none⟩), 0⟩)).push ⟨.string subS, .pointer (some ⟨s1, 0, none⟩), 0 + 1⟩) (mO := ofO2 l l1) (iR := 1) (m := ckS.size) (said := toB (frB 2 0 ckB)) (AL := []) (Q := .slice none 0 0) (Z := (lnB 0 ci rd am tb l (0 + (frB 1 0 (conB pubS)).length) ⟨#[]⟩ (toB (frB 2 0 ckB)) pubS [] true (seB pubS inn win pool que s (.slice none 0 0) Z))) H (pN1 _ _ _ _) (pN1 _ _ _ _) (pS1 _ _ _ _) rfl rfl (by show ckS.size ≤ _; rw [ckS_size]; decide) rfl (by have := conF_len subS (by decide); omega) (fun W x y z mR a hW => ?_)).mono ?_
  · have h := pump_two hW (i0 := 0) (i1 := 5) (i2 := 4) (is0 := 46) (iw0 := 44) (iq0 := 45) (is1 := 32) (iw1 := 30) (iq1 := 31) (by decide) rfl rfl rfl (pS10 _ _ _ _) rfl rfl rfl (pS1 _ _ _ _) rfl rfl rfl
    rw [set_same (L := SubS _ _ _ _ _ _ _ _ _ _ _ _ _ _ _ _ _ _ _ _ _ _ _ _ _ _ _ _ _) (i := 45) rfl, set_same (L := SubS _ _ _ _ _ _ _ _ _ _ _ _ _ _ _ _ _ _ _ _ _ _ _ _ _ _ _ _ _) (i := 31) rfl] at h
    exact h
  · rintro e w' ⟨a, rfl, hh⟩
    refine ⟨(⟨hb, lo, ((((#[] : Array MapEntry).push ⟨.int .i64 0, .pointer (some ⟨ci, 0, none⟩), 0⟩)).push ⟨.int .i64 1, .pointer (some ⟨ci1, 0, none⟩), 1⟩), ((((#[] : Array MapEntry).push ⟨.int .i64 0, .pointer (some ⟨l, 0, none⟩), 0⟩)).push ⟨.int .i64 1, .pointer (some ⟨l1, 0, none⟩), 1⟩), (((#[] : Array MapEntry).push ⟨.string pubS, .pointer (some ⟨s, 0, none⟩), 0⟩)).push ⟨.string subS, .pointer (some ⟨s1, 0, none⟩), 0 + 1⟩, 0 + 1 + 1, 0 + 1 + 1, 0 + 1 + 1, rm, .map ((((((#[] : Array MapEntry).push ⟨.int .i64 0, .int .i64 (ckS.size : Nat), 0⟩)).push ⟨.int .i64 1, .int .i64 (ckS.size : Nat), 1⟩)).modify 1 (fun e => { e with key := .int .i64 1, val := .int .i64 ((toB (frB 2 0 ckB) ++ toB (frB 9 0 suakB)).size : Nat) })) (0 + 1 + 1), mv, tM, a, ci1, rd1, am1, tb1, l1, inn1, win1, pool1, que1, s1, 0 + (frB 1 0 (conB subS)).length + (frB 8 2 suB).length, ci, rd, am, tb, l, inn, win, pool, que, s, toB (frB 2 0 ckB)⟩ : PP), 0 + (frB 1 0 (conB pubS)).length, rfl, ⟨pN10 _ _ _ _, pN1 _ _ _ _, pN10 _ _ _ _, pN1 _ _ _ _, pS10 _ _ _ _, pS1 _ _ _ _⟩, rfl, rfl, rfl, mread_1 _ _ _ _ _, by have := conF_len pubS (by decide); omega, hh⟩
theorem pubB_inj {n m : ByteArray} (h : pubB n = pubB m) : n = m := by
  unfold pubB at h
  have h1 := List.append_cancel_right (toB_inj h)
  have h2 : n.data.toList = m.data.toList := congrArg (List.drop 2) h1
  have h3 := congrArg toB h2
  rw [toB_list, toB_list] at h3
  exact h3
def pfr (n : ByteArray) : FR := (3, 0, pubB n)
def pva (n : ByteArray) : Value := .iface 45 (pubV 0 n)
def PV (x : FR) (V : Value) : Prop := ∃ n, x = pfr n ∧ V = pva n
theorem pv_all : ∀ (ns : List ByteArray) (Vs : List Value), All2 PV (ns.map pfr) Vs → Vs = ns.map pva
  | [], [], _ => rfl
  | [], _ :: _, h => h.elim
  | _ :: _, [], h => h.elim
  | n :: ns, V :: Vs, h => by
    obtain ⟨⟨m, hm, rfl⟩, h2⟩ := h
    have h3 : pubB n = pubB m := congrArg (fun x : FR => x.2.2) hm
    rw [List.map_cons, pubB_inj h3, pv_all ns Vs h2]
theorem pfr_len (n : ByteArray) (h : n.size ≤ 8) : (pfr n).bs.length = n.size + 5 := by
  show (frB 3 0 (pubB n)).length = _
  rw [frB_size, pubB_size n (by omega), varU_lt (by omega)]
  show 1 + 1 + (n.size + 3) = _
  omega
theorem pfrs_len : ∀ (ns : List ByteArray), (∀ n ∈ ns, n.size ≤ 8) → (frsB (ns.map pfr)).length ≤ 13 * ns.length
  | [], _ => Nat.zero_le _
  | n :: ns, h => by
    rw [List.map_cons, frsB_cons, List.length_append, List.length_cons, pfr_len n (h n List.mem_cons_self)]
    have h1 := pfrs_len ns (fun m hm => h m (List.mem_cons_of_mem _ hm))
    have h2 := h n List.mem_cons_self
    omega
theorem all_pubs {ns : List ByteArray} (hn : ∀ n ∈ ns, NmB n ∧ n.size ≤ 8) (hl : ns.length ≤ 20) (W : World) : Calls Tryz.prog 25 #[.string (toB (frsB (ns.map pfr))), .int .i64 1048576] W (fun e w' => ∃ v er, e = .returned (.tuple #[v, .int .i64 er]) ∧ Below W.heap.size W w' ∧ ∃ B A c, v = .slice A ns.length c ∧ RV w' B v (ns.map pva)) := by
  refine (all_ex PV (ns.map pfr) 1048576 (fun x hx => ?_) ?_).mono ?_
  · obtain ⟨n, hm, rfl⟩ := List.mem_map.1 hx
    obtain ⟨h1, h2⟩ := hn n hm
    refine ⟨⟨by show 3 < 16; decide, by show 0 < 16; decide, by show chk 3 0 = 0; decide, by show (pubB n).size ≤ _; rw [pubB_size n (by omega)]; omega, ?_⟩, fun W2 => ?_⟩
    · rw [pfr_len n h2]; omega
    · refine (parse_pub0 (w := W2) n h1.asc (by omega)).mono ?_
      rintro e w' ⟨rfl, hb⟩
      exact ⟨45, pubV 0 n, ⟨n, rfl, rfl⟩, rfl, hb⟩
  · have h1 := pfrs_len ns (fun n h => (hn n h).2)
    omega
  · rintro e w' ⟨Vs, A, c, rfl, hb, hrv, h2⟩
    have h3 := pv_all ns Vs h2
    subst h3
    rw [List.length_map] at hrv ⊢
    exact ⟨_, 0, rfl, hb, _, A, c, rfl, hrv⟩
def ToldP (p : PP) (came0 : Nat) (AL : List (Nat × ByteArray)) (ns : List ByteArray) (X : List (Nat × Obj)) (e : Ending) (w' : World) : Prop := ∃ B A c, e = .returned (.slice A ns.length c) ∧ RV w' B (.slice A ns.length c) (ns.map pva) ∧ ∃ q : PP, q.mv = p.mv ∧ Held w' (FS q came0 ⟨#[]⟩ (hdS ++ toB (frsB (ns.map pfr))) AL (.slice none 0 0) (.slice none 0 0) X)
theorem told_calls {w : World} (p : PP) (hp : p.Ok) {came0 : Nat} {AL : List (Nat × ByteArray)} {ns : List ByteArray} {X : List (Nat × Obj)} (H : Held w (FS p came0 ⟨#[]⟩ (hdS ++ toB (frsB (ns.map pfr))) AL (.slice none 0 0) (.slice none 0 0) X)) (hr : MRead p.mR hdS.size) (hn : ∀ n ∈ ns, NmB n ∧ n.size ≤ 8) (hl : ns.length ≤ 20) :
    Calls Tryz.prog 11 #[houV p.hb p.rm, .int .i64 1] w (ToldP p came0 AL ns X) := by
  obtain ⟨es, k, hmR, hf, hk⟩ := hr
  have hfl := pfrs_len ns (fun n h => (hn n h).2)
  have hsz : (hdS ++ toB (frsB (ns.map pfr))).size = 22 + (frsB (ns.map pfr)).length := by rw [ByteArray.size_append, hdS_size, toB_size]
  refine (hear_calls (fun W v => ∃ B A c, v = .slice A ns.length c ∧ RV W B v (ns.map pva)) H (hb := p.hb) (rm := p.rm) (ir := 23) (c := 1) (said := hdS ++ toB (frsB (ns.map pfr))) (m := hdS.size) (es := es) (k := k) (k2 := k) (es2 := es.modify 1 (fun e => { e with key := .int .i64 1, val := .int .i64 ((hdS ++ toB (frsB (ns.map pfr))).size : Nat) })) (by show some (p.rm, p.mR) = _; rw [hmR]) (fun W x hW => bsaid_calls hW (i0 := 0) (i4 := 2) (i5 := 1) (i6 := 25) rfl rfl rfl hp.N1 rfl) (fun W hm => look_h0 Tryz.underlying25 Tryz.underlying3 (by simp [MapKept.IsKey]) hm hf) (fun W hm => put_old Tryz.underlying25 Tryz.underlying3 (by simp [MapKept.IsKey]) hm hf hk) (fun W => ?_) (fun W W' v h hm hc => ?_) (by rw [hsz, hdS_size]; omega) (by rw [hsz]; omega)).mono ?_
  · rw [app_ext]
    exact all_pubs hn hl W
  · obtain ⟨B, A, c, rfl, h2⟩ := h
    exact ⟨B, A, c, rfl, h2.map hm hc⟩
  · rintro e w' ⟨v, rfl, ⟨B, A, c, rfl, h2⟩, hh⟩
    exact ⟨B, A, c, rfl, h2, { p with mR := .map (es.modify 1 (fun e => { e with key := .int .i64 1, val := .int .i64 ((hdS ++ toB (frsB (ns.map pfr))).size : Nat) })) k }, rfl, hh⟩
theorem mask_of {w : World} (h : HasM w) : ∃ mv : MO, w.heap[0]? = some mv.1 := by
  obtain ⟨m, hm⟩ := h
  cases ho : w.heap[0]? with
  | none =>
    unfold World.cell? at hm
    rw [ho] at hm
    cases hm
  | some o =>
    refine ⟨⟨o, fun W hW => ⟨m, ?_⟩⟩, rfl⟩
    unfold World.cell? at hm ⊢
    show (match W.heap[0]? with | some (.cells c _ _) => _ | _ => none) = _
    rw [hW, ← ho]
    exact hm
theorem enc_let (c : Nat) (h : c < 256) : ∃ x, letB x ∧ Utf8.encode (97 + (c : Int) % 3) = ⟨#[x]⟩ := by
  have h1 : (c : Int) % 3 = 0 ∨ (c : Int) % 3 = 1 ∨ (c : Int) % 3 = 2 := by omega
  rcases h1 with h1 | h1 | h1 <;> rw [h1]
  · exact ⟨97, .inr (.inl rfl), rfl⟩
  · exact ⟨98, .inr (.inr (.inl rfl)), rfl⟩
  · exact ⟨99, .inr (.inr (.inr rfl)), rfl⟩
theorem NmB.snoc {s : ByteArray} {x : UInt8} (h : NmB s) (hx : letB x) : NmB (s ++ ⟨#[x]⟩) := by
  intro y hy
  have h1 : (s ++ ⟨#[x]⟩ : ByteArray).data.toList = s.data.toList ++ [x] := by simp
  rw [h1] at hy
  rcases List.mem_append.1 hy with hy | hy
  · exact h y hy
  · rw [List.mem_singleton.1 hy]; exact hx
theorem nm_t : NmB ⟨#[116]⟩ := by
  intro y hy
  have h1 : y ∈ ([116] : List UInt8) := hy
  rw [List.mem_singleton.1 h1]
  exact .inl rfl
theorem pt_same : ∀ (L : List (Nat × ByteArray)) (a : Nat) (s : ByteArray), gtL L a = some s → ptL L a s = L
  | [], a, s, h => by cases h
  | (b, t) :: L, a, s, h => by
    simp only [gtL] at h
    simp only [ptL]
    by_cases hab : a = b
    · rw [if_pos hab] at h ⊢
      rw [Option.some.inj h]
    · rw [if_neg hab] at h ⊢
      rw [pt_same L a s h]
theorem wf_pos {x : Int} (h : (Lit.int .u32 x).wf = true) : 0 ≤ x := by
  unfold Lit.wf at h
  simp at h
  rw [show IntKind.u32.min = 0 from rfl] at h
  omega
theorem al_num9 (x : Int) (h : (Lit.int .u32 x).wf = true) : ∃ a : Nat, (1 ≤ a ∧ a ≤ 9) ∧ (1 + x.tmod 9) % 4294967296 = (a : Int) := by
  have h0 : 0 ≤ x := wf_pos h
  rw [Int.tmod_eq_emod_of_nonneg h0]
  exact ⟨(1 + x % 9).toNat, by omega, by omega⟩
def Cut4P (w : World) (e : Ending) (w' : World) : Prop := ∃ t : ByteArray, e = .returned (.string t) ∧ t.size ≤ 4 ∧ w' = w
theorem cut4_calls (s : ByteArray) (w : World) : Calls Tryz.prog 8 #[.string s, .int .i64 4] w (Cut4P w) := by
  by_cases h : 4 < s.size
  · have h1 : (4 : Int) < (s.size : Int) := by omega
    have h2 : (4 : Int) ≤ (s.size : Int) := by omega
    go_enter Tryz.func8, Tryz.ntmps8
    go_wp2
    go_ret
    exact ⟨_, rfl, by rw [ByteArray.size_extract]; omega, rfl⟩
  · have h1 : ¬ (4 : Int) < (s.size : Int) := by omega
    have h2 : s.size ≤ 4 := by omega
    go_enter Tryz.func8, Tryz.ntmps8
    go_wp2
    go_ret
    exact ⟨_, rfl, h2, rfl⟩
theorem rd_mem {l : List Int} {i : Nat} (h : i < l.length) : rd l (i : Int) ∈ l := by
  unfold rd
  rw [Int.toNat_natCast, List.getD_eq_getElem?_getD, List.getElem?_eq_getElem h]
  exact List.getElem_mem h
theorem at_pub {w : World} {A : Option Addr} {ns : List ByteArray} (h : Kd.C kPub w A ns.length ns) (j : Nat) (hj : j < ns.length) : ∃ ad, A = some ad ∧ w.cell? (ad.add (j * 7)) = some (.bool false) ∧ w.cell? ⟨(ad.add (j * 7)).block, (ad.add (j * 7)).off + 1, none⟩ = some (.bool false) ∧ w.cell? ⟨(ad.add (j * 7)).block, (ad.add (j * 7)).off + 2, none⟩ = some (.int .u8 0) ∧ w.cell? ⟨(ad.add (j * 7)).block, (ad.add (j * 7)).off + 3, none⟩ = some (.int .u32 0) ∧ w.cell? ⟨(ad.add (j * 7)).block, (ad.add (j * 7)).off + 4, none⟩ = some (.slice none 0 0) ∧ w.cell? ⟨(ad.add (j * 7)).block, (ad.add (j * 7)).off + 5, none⟩ = some (.string ns[j]) ∧ w.cell? ⟨(ad.add (j * 7)).block, (ad.add (j * 7)).off + 6, none⟩ = some (.string ⟨#[]⟩) := by
  obtain ⟨ad, c, e, _, hK, hc0⟩ := Kd.C_get h ⟨#[]⟩ (j : Int) (by omega) (by omega)
  have hc : ∀ i u, c[i]? = some u → w.cell? (ad.add (j * 7 + i)) = some u := fun i u hu => by
    have h1 := hc0 i u hu
    rw [Int.toNat_natCast] at h1
    exact h1
  have hK2 : c = pubL (ns.getD j ⟨#[]⟩) := hK
  subst hK2
  have h3 : ns.getD j ⟨#[]⟩ = ns[j] := by simp [List.getD_eq_getElem?_getD, List.getElem?_eq_getElem hj]
  rw [h3] at hc
  exact ⟨ad, e, hc 0 _ rfl, by rw [← add_field _ _ 1 (by omega)]; exact hc 1 _ rfl, by rw [← add_field _ _ 2 (by omega)]; exact hc 2 _ rfl, by rw [← add_field _ _ 3 (by omega)]; exact hc 3 _ rfl, by rw [← add_field _ _ 4 (by omega)]; exact hc 4 _ rfl, by rw [← add_field _ _ 5 (by omega)]; exact hc 5 _ rfl, by rw [← add_field _ _ 6 (by omega)]; exact hc 6 _ rfl⟩
theorem tl_eq {a b : ByteArray} (h : (a.toList == b.toList) = true) : a = b := by
  have e := eq_of_beq h
  rw [Lib.toList_data, Lib.toList_data] at e
  have h2 := congrArg toB e
  rw [toB_list, toB_list] at h2
  exact h2
def LoopR (p : PP) (om : Nat) (Z : List (Nat × Obj)) (ns : List ByteArray) (v8 : Value) (X : World) : Prop := ∃ (AL : List (Nat × ByteArray)) (came0 wb : Nat) (cur : Array Value), came0 ≤ 1000 + 16 * ns.length ∧ (∀ n ∈ ns, NmB n ∧ n.size ≤ 8) ∧ WR X v8 wb cur ns ∧ Held X (FS p came0 ⟨#[]⟩ (hdS ++ toB (frsB (ns.map pfr))) AL (.slice none 0 0) (.slice none 0 0) ((wb, .cells cur 9 (0, 0)) :: (om, amO AL) :: Z))
theorem toB_append (a b : List UInt8) : toB (a ++ b) = toB a ++ toB b := by
  apply ByteArray.ext
  simp [toB]
theorem frsB_snoc (ns : List ByteArray) (n : ByteArray) : hdS ++ toB (frsB ((ns ++ [n]).map pfr)) = (hdS ++ toB (frsB (ns.map pfr))) ++ toB (frB 3 0 (pubB n)) := by
  have h : frsB ((ns ++ [n]).map pfr) = frsB (ns.map pfr) ++ frB 3 0 (pubB n) := by
    rw [List.map_append, frsB_app]
    show _ ++ (frB 3 0 (pubB n) ++ []) = _
    rw [List.append_nil]
  rw [h, toB_append, ByteArray.append_assoc]
theorem WR.len {w : World} {v : Value} {b : Nat} {cur : Array Value} {ns : List ByteArray} (h : WR w v b cur ns) : ∃ A c, v = .slice A ns.length c ∧ FL w A ns := by
  obtain ⟨A, c, hv, _, hc⟩ := ro_form h.2.2
  exact ⟨A, c, hv, hc⟩
theorem hd_nil : hdS ++ toB (frsB (([] : List ByteArray).map pfr)) = hdS := by
  apply ByteArray.ext
  simp [toB, frsB]
theorem fs_sub {p : PP} {came0 : Nat} {wait0 said1 : ByteArray} {AL : List (Nat × ByteArray)} {Q0 Q1 : Value} {X : List (Nat × Obj)} (q : Nat × Obj) (h : q ∈ X) : q ∈ FS p came0 wait0 said1 AL Q0 Q1 X := by
  have h1 : FS p came0 wait0 said1 AL Q0 Q1 X = FS p came0 wait0 said1 AL Q0 Q1 [] ++ X := rfl
  rw [h1]
  exact List.mem_append_right _ h
theorem fs_mid {W : World} {p : PP} {came0 : Nat} {wait0 said1 : ByteArray} {AL : List (Nat × ByteArray)} {Q0 Q1 : Value} {X : List (Nat × Obj)} {x : Nat × Obj} (h : Held W (FS p came0 wait0 said1 AL Q0 Q1 X ++ [x])) : Held W (FS p came0 wait0 said1 AL Q0 Q1 (x :: X)) := app_mid (A := FS p came0 wait0 said1 AL Q0 Q1 []) (X := X) (N := [x]) h
theorem fs_drop {W : World} {p : PP} {came0 : Nat} {wait0 said1 : ByteArray} {AL : List (Nat × ByteArray)} {Q0 Q1 : Value} {X Y : List (Nat × Obj)} (h : Held W (FS p came0 wait0 said1 AL Q0 Q1 X)) (hs : Y.Sublist X) : Held W (FS p came0 wait0 said1 AL Q0 Q1 Y) := h.sub (show (FS p came0 wait0 said1 AL Q0 Q1 [] ++ Y).Sublist (FS p came0 wait0 said1 AL Q0 Q1 [] ++ X) from List.Sublist.append_left hs _)
theorem fs_perm {W : World} {p : PP} {came0 : Nat} {wait0 said1 : ByteArray} {AL : List (Nat × ByteArray)} {Q0 Q1 : Value} {X Y : List (Nat × Obj)} (h : Held W (FS p came0 wait0 said1 AL Q0 Q1 X)) (hp : X.Perm Y) : Held W (FS p came0 wait0 said1 AL Q0 Q1 Y) := h.perm (show (FS p came0 wait0 said1 AL Q0 Q1 [] ++ X).Perm (FS p came0 wait0 said1 AL Q0 Q1 [] ++ Y) from List.Perm.append_left _ hp)
theorem fs_below {w W : World} {p : PP} {came0 : Nat} {wait0 said1 : ByteArray} {AL : List (Nat × ByteArray)} {Q0 Q1 : Value} {X : List (Nat × Obj)} (hf : Fr w) (h0 : w.heap[0]? = some p.mv.1) (h : Held W (FS p came0 wait0 said1 AL Q0 Q1 X)) (hX : ∀ q ∈ restB w, q ∈ X) : Below w.heap.size w W := held_below hf h0 h (List.mem_of_getElem? (i := 24) rfl) (fun q hq => fs_sub q (hX q hq))
theorem law_calls {w : World} (hfr : Fr w) (hm : HasM w) {A0 A1 : Option Addr} {c0 c1 : Nat} {fs : List ByteArray} {ls : List Int} (hF : FL w A0 fs) (hL : ReadsInt w .u32 A1 ls.length ls) (hc0 : fs.length ≤ c0) (hc1 : ls.length ≤ c1) (hw : ∀ x ∈ ls, (Lit.int .u32 x).wf = true) : Calls Tryz.prog 3 #[.slice A0 fs.length c0, .slice A1 ls.length c1] w (fun e w' => e = .returned (.bool true) ∧ Below w.heap.size w w') := by
  obtain ⟨mv, hmv⟩ := mask_of hm
  obtain ⟨tM, _⟩ : ∃ tM : TypeId, tM = 0 := ⟨0, rfl⟩
  have HX := Lib.hid (all_held hfr hmv)
  have HFR := Lib.hid hfr
  have HMV := Lib.hid hmv
  have HF := Lib.hid hF
  have HL := Lib.hid hL
  have HC0 := Lib.hid hc0
  have HC1 := Lib.hid hc1
  have HW := Lib.hid hw
  have hmm := @run_makeMap Tryz.prog
  have HOP := Lib.hid (opn_calls HX.out)
  unfold OpnP houV at HOP
  clear hfr hm hF hL hc0 hc1 hw hmv
  go_enter Tryz.func3, Tryz.ntmps3
  go_upto_region 2 with (first
    | (go_at_call 4; (with_reducible refine (HOP.out).mono ?_); rintro e w1 ⟨hb, lo, rm, rfl, hh⟩; have HH0 := Lib.hid hh; clear hh))
  have HH1 := Lib.hid (show Held (w1.alloc (Obj.cells #[.pointer (some ⟨hb, 0, none⟩), .map (some rm)] 27)) (hB hb lo mp0 mp0 mp0 mp0 mp0 0 rm mp0 mv tM ((w1.heap.size, houO hb rm) :: restB w)) from app_mid (A := hB hb lo mp0 mp0 mp0 mp0 mp0 0 rm mp0 mv tM []) (X := restB w) (N := [(w1.heap.size, houO hb rm)]) (HH0.out.alloc (Obj.cells #[.pointer (some ⟨hb, 0, none⟩), .map (some rm)] 27) rfl))
  clear HX HOP HH0
  generalize w1.alloc (Obj.cells #[.pointer (some ⟨hb, 0, none⟩), .map (some rm)] 27) = W1 at HH1 ⊢
  generalize w1.heap.size = hl at HH1 ⊢
  obtain ⟨x0, x1⟩ := twocell (HH1.out.get 25 rfl)
  go_upto_region 4 with (first
    | (go_at_call 5; (with_reducible refine (live_calls _ (held_M HH1.out (i := 24) rfl)).mono ?_); rintro e w2 ⟨rfl, hq⟩; have HH2 := Lib.hid (HH1.out.below hq); obtain ⟨y0, y1⟩ := twocell (HH2.out.get 25 rfl); have HJ0 := Lib.hid (jo0_calls HH2.out); unfold houV J0P pubS at HJ0; clear hq)
    | (go_at_call 6; (with_reducible refine (HJ0.out).mono ?_); rintro e w3 ⟨ci, rdd, am, tb, l, inn, win, pool, que, s, rfl, hq⟩; have HH3 := Lib.hid hq; obtain ⟨z0, z1⟩ := twocell (HH3.out.get 33 rfl); have HJ1 := Lib.hid (jo1_calls HH3.out); unfold houV J1P subS at HJ1; clear hq)
    | (go_at_call 6; (with_reducible refine (HJ1.out).mono ?_); rintro e w4 ⟨ci1, rd1, am1, tb1, l1, inn1, win1, pool1, que1, s1, rfl, hq⟩; have HH4 := Lib.hid hq; obtain ⟨u0, u1⟩ := twocell (HH4.out.get 41 rfl); have HAQ := Lib.hid (askq_calls HH4.out); unfold houV AskQ at HAQ; clear hq))
  clear x0 x1 y0 y1 z0 z1 HH1 HH2 HH3 HJ0 HJ1
  go_upto_region 5 with (first
    | (go_at_call 7; (with_reducible refine (HAQ.out).mono ?_); rintro e w5 ⟨p, came0, rfl, hok, rfl, rfl, rfl, hmr, hcm, hq⟩; have HH5 := Lib.hid hq; have HOK := Lib.hid hok; have HMR := Lib.hid hmr; have HCM := Lib.hid hcm; clear hq hok hmr hcm))
  clear u0 u1 HH4 HAQ
  go_upto_region 7 with (fail)
  have HL0 := Lib.hid (show LoopR p w5.heap.size ((hl, houO p.hb p.rm) :: restB w) [] (.slice (some ⟨w5.heap.size + 1, 0, none⟩) 0 0) ((w5.alloc (.map #[] 0)).alloc (.cells #[] 9)) from by
    have h1 := fs_mid (HH5.out.alloc (.map #[] 0) rfl)
    have h2 := fs_mid (h1.alloc (.cells #[] 9) rfl)
    rw [World.size_alloc] at h2
    have h3 := R_empty Kd.string (w5.alloc (.map #[] 0)) 9
    rw [World.size_alloc] at h3
    refine ⟨[], came0, w5.heap.size + 1, #[], by have := HCM.out; simpa using this, (fun n hn => by cases hn), ⟨h2.get 44 rfl, rfl, Kd.R_lower h3 (Nat.zero_le _)⟩, ?_⟩
    rw [hd_nil]
    exact h2)
  clear HH5 HCM
  generalize ((w5.alloc (.map #[] 0)).alloc (.cells #[] 9)) = W6 at HL0 ⊢
  go_upto_region 8 with (fail)
  generalize (.slice (some ⟨w5.heap.size + 1, 0, none⟩) 0 0 : Value) = v80 at HL0 ⊢
  generalize w5.heap.size = om at HL0 ⊢
  have kb := fun b W => print_bytes (P := Tryz.prog) 9 35 5 Tryz.underlying9 Tryz.underlying35 Tryz.underlying5 b W
  go_loopg [8, 9] 20 (fun gh v8 v9 wx => ∃ (i : Nat) (ns : List ByteArray), Hid (i + gh = 20) ∧ v9 = .int .i64 (i : Nat) ∧ Hid (ns.length = i) ∧ Hid (LoopR p om ((hl, houO p.hb p.rm) :: restB w) ns v8 wx))
  case atStart => exact ⟨0, [], Lib.hid rfl, rfl, Lib.hid rfl, HL0⟩
  case round =>
    clear HL0
    obtain ⟨i, ns, hi, rfl, hn, HLP⟩ := hrel
    by_cases hq : i < fs.length ∧ i < ls.length ∧ i < 20
    · obtain ⟨hq1, hq2, hq3⟩ := hq
      have HNI := Lib.hid hn.out
      obtain ⟨AL, came, wb, cur, hcm, hns, hwr, hh⟩ := HLP.out
      have HIG := Lib.hid hi.out
      have HCM := Lib.hid hcm
      have HNS := Lib.hid hns
      have HBW := Lib.hid (fs_below HFR.out HMV.out hh (fun q hq => List.mem_cons_of_mem _ (List.mem_cons_of_mem _ (List.mem_cons_of_mem _ hq))))
      obtain ⟨ad1, rfl, hcell1⟩ := (HL.out.below HBW.out).at_ (i : Int) (by omega) (by omega)
      obtain ⟨ad0, rfl, hcell0⟩ := (HF.out.to HBW.out).at i hq1
      rw [Int.toNat_natCast] at hcell1
      have hwx : (Lit.int .u32 (rd ls i)).wf = true := HW.out _ (rd_mem hq2)
      obtain ⟨a, ha, hx⟩ := al_num9 _ hwx
      generalize rd ls (i : Int) = x at hcell1 hx
      generalize fs[i] = nmi at hcell0
      have HA := Lib.hid ha
      have HHW := Lib.hid hh
      have HWR := Lib.hid hwr
      have g1 : (i : Int) < (fs.length : Int) := by omega
      have g2 : (i : Int) < (ls.length : Int) := by omega
      have g3 : (i : Int) < 20 := by omega
      clear hwx ha hh hwr hcm hns HLP hi hn hq1 hq2 hq3
      go_upto_region 11 with (fail)
      rw [hx]
      go_upto_region 13 with (first
        | (go_at_call 8; (with_reducible refine (cut4_calls _ _).mono ?_); rintro e w6 ⟨t, rfl, ht, hwe⟩; have hwe := hwe.symm; subst hwe; have HT := Lib.hid ht; clear ht))
      have hbw := bytes_below (Below.refl wr.heap.size wr) (Nat.le_refl _) 5 t
      have HC6 := Lib.hid (fun j hj => Lib.bytesWorld_cell wr 5 t j hj)
      have HH6 := Lib.hid (HHW.out.below hbw)
      have HWR6 := Lib.hid (HWR.out.to (HH6.out.get 44 rfl))
      have HBW6 := Lib.hid (HBW.out.trans (hbw.mono HBW.out.size))
      clear hbw HHW HWR HBW hcell0 hcell1
      generalize Lib.bytesWorld wr 5 t = W7 at HC6 HH6 HWR6 HBW6 ⊢
      generalize grownCap wr t.size 0 5 = cap
      generalize wr.heap.size = b0 at HC6 ⊢
      cases gk with
      | zero => exact absurd HIG.out (by omega)
      | succ g1 =>
        go_loopg [11, 73] t.size (fun gh v11 v73 wx => ∃ (j : Nat) (nm : ByteArray), Hid (j + gh = t.size) ∧ v73 = .int .i64 (j : Nat) ∧ v11 = .string nm ∧ Hid (NmB nm ∧ 0 < nm.size ∧ nm.size ≤ 1 + j) ∧ W7 = wx)
        case atStart => exact ⟨0, _, Lib.hid (Nat.zero_add _), rfl, rfl, Lib.hid ⟨nm_t, by decide, by decide⟩, rfl⟩
        case round =>
          obtain ⟨j, nm, hj, rfl, rfl, HN, rfl⟩ := hrel
          cases gk with
          | succ g2 =>
            have hj2 : j < t.size := by have := hj.out; omega
            have hlt : (j : Int) < (t.size : Int) := by omega
            have HJ := Lib.hid (show j + g2 + 1 = t.size by have := hj.out; omega)
            have hcell := HC6.out j hj2
            have hy : (t.data.toList.getD j 0).toNat < 256 := UInt8.toNat_lt _
            generalize (t.data.toList.getD j 0).toNat = y at hcell hy
            obtain ⟨x1, hx1, he⟩ := enc_let y hy
            have HX1 := Lib.hid hx1
            have hcs : nm.size + (⟨#[x1]⟩ : ByteArray).size ≤ 9223372036854775807 := by
              have h1 := HN.out
              have h2 := HT.out
              show nm.size + 1 ≤ _
              omega
            clear hj hj2 hx1
            go_wp2
            go_roundg g2
            case measure => omega
            case rel => exact ⟨j + 1, nm ++ ⟨#[x1]⟩, Lib.hid (by have := HJ.out; omega), by rw [w64n j (by have := HJ.out; have := HT.out; omega)], rfl, Lib.hid ⟨HN.out.1.snoc HX1.out, by rw [ByteArray.size_append]; have := HN.out.2.1; omega, by rw [ByteArray.size_append]; have := HN.out.2.2; show nm.size + 1 ≤ _; omega⟩, rfl⟩
          | zero =>
            obtain rfl : j = t.size := by have := hj.out; omega
            have hlt : ¬ (t.size : Int) < (t.size : Int) := by omega
            have HNM := Lib.hid (show NmB nm ∧ 0 < nm.size ∧ nm.size ≤ 8 from ⟨HN.out.1, HN.out.2.1, by have := HN.out.2.2; have := HT.out; omega⟩)
            clear hj HN HC6
            have HH8 := Lib.hid (show Held ((W7.alloc (Obj.cells #[.int .i64 35, .int .u32 (a : Nat), .string ⟨#[]⟩, .string ⟨#[]⟩] 38)).alloc (Obj.cells #[.bool false, .bool false, .int .u8 0, .int .u32 0, .slice (some ⟨W7.heap.size, 0, none⟩) 1 1, .string nm, .string ⟨#[]⟩] 42)) (FS p came ⟨#[]⟩ (hdS ++ toB (frsB (ns.map pfr))) AL (.slice none 0 0) (.slice none 0 0) ((W7.heap.size + 1, (Obj.cells #[.bool false, .bool false, .int .u8 0, .int .u32 0, .slice (some ⟨W7.heap.size, 0, none⟩) 1 1, .string nm, .string ⟨#[]⟩] 42)) :: (W7.heap.size, (Obj.cells #[.int .i64 35, .int .u32 (a : Nat), .string ⟨#[]⟩, .string ⟨#[]⟩] 38)) :: (wb, .cells cur 9 (0, 0)) :: (om, amO AL) :: ((hl, houO p.hb p.rm) :: restB w))) from by
              have h := fs_mid ((fs_mid (HH6.out.alloc (Obj.cells #[.int .i64 35, .int .u32 (a : Nat), .string ⟨#[]⟩, .string ⟨#[]⟩] 38) rfl)).alloc (Obj.cells #[.bool false, .bool false, .int .u8 0, .int .u32 0, .slice (some ⟨W7.heap.size, 0, none⟩) 1 1, .string nm, .string ⟨#[]⟩] 42) rfl)
              rw [World.size_alloc] at h
              exact h)
            go_upto_region 18 with (fail)
            generalize ((W7.alloc (Obj.cells #[.int .i64 35, .int .u32 (a : Nat), .string ⟨#[]⟩, .string ⟨#[]⟩] 38)).alloc (Obj.cells #[.bool false, .bool false, .int .u8 0, .int .u32 0, .slice (some ⟨W7.heap.size, 0, none⟩) 1 1, .string nm, .string ⟨#[]⟩] 42)) = W8 at HH8 ⊢
            generalize W7.heap.size + 1 = pl at HH8 ⊢
            generalize W7.heap.size = qb at HH8 ⊢
            have hlk := am_look (P := Tryz.prog) Tryz.underlying33 Tryz.underlying34 (Tryz.zeroValue9 _) (HH8.out.get 47 rfl) a false
            go_upto_if 94 with (fail)
            clear hlk
            go_cut [] from 44 to 108 (fun wc => ∃ T : ByteArray, Hid (NmOk AL (ptL AL a nm) a T nm) ∧ Hid (Asc T ∧ T.size ≤ 8) ∧ Hid (Held wc (FS p came ⟨#[]⟩ (hdS ++ toB (frsB (ns.map pfr))) AL (.slice none 0 0) (.slice none 0 0) ((pl, (Obj.cells #[.bool false, .bool false, .int .u8 0, .int .u32 0, .slice (some ⟨qb, 0, none⟩) 1 1, .string T, .string ⟨#[]⟩] 42)) :: (qb, (Obj.cells #[.int .i64 35, .int .u32 (a : Nat), .string ⟨#[]⟩, .string ⟨#[]⟩] 38)) :: (wb, .cells cur 9 (0, 0)) :: (om, amO AL) :: ((hl, houO p.hb p.rm) :: restB w)))))
            case first =>
              have hpl := HH8.out.get 44 rfl
              have f5 := blk_frozen hpl 5
              obtain ⟨y0, y1, y2, y3, y4, y5, y6⟩ := sevencell hpl
              cases hqq : (((gtL AL a).getD ⟨#[]⟩).toList == nm.toList) with
              | true =>
                have hg := tl_eq hqq
                have hgs : gtL AL a = some nm := by
                  cases hgg : gtL AL a with
                  | none =>
                    rw [hgg] at hg
                    have h1 := HNM.out.2.1
                    rw [← hg] at h1
                    exact absurd h1 (by decide)
                  | some u =>
                    rw [hgg] at hg
                    exact congrArg some hg
                have HR := Lib.hid (show Held (W8.setCell ⟨pl, 5, none⟩ (.string ⟨#[]⟩)) _ from HH8.out.set 44 rfl (chg_setc' pl 5 _) (blk_put hpl 5 (.string ⟨#[]⟩) rfl))
                have HP := Lib.hid (pt_same AL a nm hgs)
                have HGS := Lib.hid hgs
                clear hpl hgs hg hqq
                go_wp2
                go_meet
                exact ⟨⟨#[]⟩, Lib.hid (.inr ⟨rfl, HGS.out, HP.out⟩), Lib.hid ⟨(fun x hx => by cases hx), by decide⟩, HR⟩
              | false =>
                clear hpl hqq
                go_wp2
                go_meet
                exact ⟨nm, Lib.hid (.inl ⟨rfl, rfl⟩), Lib.hid ⟨HNM.out.1.asc, HNM.out.2.2⟩, HH8⟩
            case rest =>
              clear HH8
              obtain ⟨T, HNK, HT8, HH9⟩ := hcut
              have hput := am_put (P := Tryz.prog) Tryz.underlying33 Tryz.underlying34 (HH9.out.get 47 rfl) a nm
              have HHA := Lib.hid (HH9.out.set 47 rfl (setB_chg wc om (amO (ptL AL a nm))) (setB_at _ (HH9.out.get 47 rfl)))
              have HWRA := Lib.hid (HWR6.out.to (w' := ChangeMaps.setBlock wc om (amO (ptL AL a nm))) (HHA.out.get 46 rfl))
              have HA9 := Lib.hid (show Held (ChangeMaps.setBlock wc om (amO (ptL AL a nm))) (FS p came ⟨#[]⟩ (hdS ++ toB (frsB (ns.map pfr))) AL (.slice none 0 0) (.slice none 0 0) ((pl, (Obj.cells #[.bool false, .bool false, .int .u8 0, .int .u32 0, .slice (some ⟨qb, 0, none⟩) 1 1, .string T, .string ⟨#[]⟩] 42)) :: (qb, (Obj.cells #[.int .i64 35, .int .u32 (a : Nat), .string ⟨#[]⟩, .string ⟨#[]⟩] 38)) :: (wb, .cells cur 9 (0, 0)) :: (om, amO (ptL AL a nm)) :: ((hl, houO p.hb p.rm) :: restB w))) from HHA.out)
              clear HH9 HHA HH6 HWR6
              go_upto_region 21 with (fail)
              generalize (ChangeMaps.setBlock wc om (amO (ptL AL a nm))) = WA at HWRA HA9 ⊢
              have HLN := Lib.hid (show (ns.length + 1) * 16 ≤ 140737488355328 from by have h1 := HNI.out; have h2 := HIG.out; omega)
              have HSZ := Lib.hid (show (hdS ++ toB (frsB (ns.map pfr))).size ≤ 1000000 from by
                have h1 := pfrs_len ns (fun n h => (HNS.out n h).2)
                have h2 := HNI.out
                have h3 := HIG.out
                rw [ByteArray.size_append, hdS_size, toB_size]
                omega)
              have HCZ := Lib.hid (show came ≤ 1000000 from by have h1 := HCM.out; have h2 := HNI.out; have h3 := HIG.out; omega)
              go_upto_region 22 with ((with_reducible refine gate_builtin (b := .append) (xs := #[.tmp 99, .tmp 101]) rfl ?_); at_builtin; refine Kd.R_append Kd.string (w0 := _) 0 rfl (.tmp 99) (.tmp 101) 22 9 (.string ⟨#[]⟩) 16 rfl Tryz.underlying22 info9 rfl (by decide) (by decide) _ ns nm [.string nm] (fun _ => True) (fun _ => False) rfl rfl rfl (fun _ h => h.elim) (fun _ _ => trivial) HWRA.out.2.2 (Below.refl _ _) (Nat.zero_le _) HLN.out ?_; intro v1 w11 hr hb hg hat; obtain ⟨wb1, cur1, hwr1, hh1⟩ := WR.grown HWRA.out (show Held _ (FS p came ⟨#[]⟩ (hdS ++ toB (frsB (ns.map pfr))) AL (.slice none 0 0) (.slice none 0 0) [(pl, (Obj.cells #[.bool false, .bool false, .int .u8 0, .int .u32 0, .slice (some ⟨qb, 0, none⟩) 1 1, .string T, .string ⟨#[]⟩] 42)), (qb, (Obj.cells #[.int .i64 35, .int .u32 (a : Nat), .string ⟨#[]⟩, .string ⟨#[]⟩] 38))] ++ (wb, .cells cur 9 (0, 0)) :: (om, amO (ptL AL a nm)) :: ((hl, houO p.hb p.rm) :: restB w)) from HA9.out) hr hg hat; have HW1 := Lib.hid hwr1; have HHB := Lib.hid (show Held w11 (FS p came ⟨#[]⟩ (hdS ++ toB (frsB (ns.map pfr))) AL (.slice none 0 0) (.slice none 0 0) ((pl, (Obj.cells #[.bool false, .bool false, .int .u8 0, .int .u32 0, .slice (some ⟨qb, 0, none⟩) 1 1, .string T, .string ⟨#[]⟩] 42)) :: (qb, (Obj.cells #[.int .i64 35, .int .u32 (a : Nat), .string ⟨#[]⟩, .string ⟨#[]⟩] 38)) :: (wb1, .cells cur1 9 (0, 0)) :: (om, amO (ptL AL a nm)) :: ((hl, houO p.hb p.rm) :: restB w))) from hh1); clear hr hb hg hat hwr1 hh1)
              clear HWRA HA9 hput
              obtain ⟨x0, x1⟩ := twocell (HHB.out.get 48 rfl)
              obtain ⟨y0, y1, y2, y3, y4, y5, y6⟩ := sevencell (HHB.out.get 44 rfl)
              have HHC := Lib.hid (show Held (w11.alloc (Obj.cells #[.iface 45 (pbV (some ⟨qb, 0, none⟩) 1 T)] 81)) (FS p came ⟨#[]⟩ (hdS ++ toB (frsB (ns.map pfr))) AL (.slice none 0 0) (.slice none 0 0) ((qb, (Obj.cells #[.int .i64 35, .int .u32 (a : Nat), .string ⟨#[]⟩, .string ⟨#[]⟩] 38)) :: (w11.heap.size, (Obj.cells #[.iface 45 (pbV (some ⟨qb, 0, none⟩) 1 T)] 81)) :: (wb1, .cells cur1 9 (0, 0)) :: (om, amO (ptL AL a nm)) :: ((hl, houO p.hb p.rm) :: restB w))) from fs_perm (fs_mid ((fs_drop HHB.out (List.sublist_cons_self _ _)).alloc (Obj.cells #[.iface 45 (pbV (some ⟨qb, 0, none⟩) 1 T)] 81) rfl)) (List.Perm.swap _ _ _))
              have HSY := Lib.hid (say_al p HOK.out HHC.out HNK.out HA.out HT8.out.1 HT8.out.2 HNM.out.1 HNM.out.2.1 HNM.out.2.2 HSZ.out HCZ.out)
              unfold RetP houV pbV at HSY
              clear HHB HHC
              go_wp2_with (first
                | (go_at_call 9; (with_reducible refine (HSY.out).mono ?_); rintro e w12 ⟨rfl, hq⟩; have HHD := Lib.hid (fs_drop hq ((List.sublist_cons_self _ _).trans (List.sublist_cons_self _ _))); clear hq))
              go_roundg g1
              case measure => omega
              case rel => exact ⟨i + 1, ns ++ [nm], Lib.hid (by have := HIG.out; omega), by push_cast; rfl, Lib.hid (by rw [List.length_append, HNI.out]; rfl), Lib.hid ⟨ptL AL a nm, came + (T.size + 8), wb1, cur1, by rw [List.length_append]; show _ ≤ 1000 + 16 * (ns.length + 1); have h1 := HCM.out; have h2 := HT8.out.2; omega, fun n hn => (List.mem_append.1 hn).elim (fun h => HNS.out n h) (fun h => by rw [List.mem_singleton.1 h]; exact ⟨HNM.out.1, HNM.out.2.2⟩), HW1.out.to (HHD.out.get 44 rfl), by rw [frsB_snoc]; exact HHD.out⟩⟩
    · have hcase : (¬ (i : Int) < (fs.length : Int)) ∨ ((i : Int) < (fs.length : Int) ∧ ¬ (i : Int) < (ls.length : Int)) ∨ ((i : Int) < (fs.length : Int) ∧ (i : Int) < (ls.length : Int) ∧ ¬ (i : Int) < 20) := by omega
      obtain ⟨AL, came, wb, cur, hcm, hns, hwr, hh⟩ := HLP.out
      have HNL := Lib.hid (show ns.length ≤ 20 by have h1 := hi.out; have h2 := hn.out; omega)
      have HTD := Lib.hid (told_calls p HOK.out hh HMR.out hns HNL.out)
      unfold ToldP houV at HTD
      obtain ⟨Aw, cw, rfl, hfl⟩ := hwr.len
      have HWR := Lib.hid hwr
      obtain ⟨x0, x1⟩ := twocell (hh.get 46 rfl)
      clear hh hwr hfl hns hcm HLP hi hn hq
      rcases hcase with g1 | ⟨g1, g2⟩ | ⟨g1, g2, g3⟩
      all_goals
        go_upto_region 24 with (first
          | (go_at_call 11; (with_reducible refine (HTD.out).mono ?_); rintro e w13 ⟨B, A, c, rfl, hrv, q, hqm, hq⟩; have HH13 := Lib.hid hq; have HQM := Lib.hid hqm; have HWR13 := Lib.hid (HWR.out.to (hq.get 44 rfl)); have HPB := Lib.hid (publishes_calls (ns := ns) hrv rfl (by have := HNL.out; omega)); unfold PubsP at HPB; clear hq hrv hqm)
          | (go_at_call 10; (with_reducible refine (HPB.out).mono ?_); rintro e w14 ⟨v, rfl, hR, hb⟩; have HH14 := Lib.hid (HH13.out.below hb); have HWR14 := Lib.hid (HWR13.out.to (HH14.out.get 44 rfl)); obtain ⟨Ag, cg, rfl, hcg, hC⟩ := Kd.R_reads hR; have HCG := Lib.hid hC; clear hb hR hC hcg))
        clear x0 x1 HTD HPB HH13 HWR13 HWR
        obtain ⟨Aw2, cw2, hv2, hfl⟩ := HWR14.out.len
        injection hv2 with e1 e2 e3
        subst e1
        have HFW := Lib.hid hfl
        clear hfl e2 e3
        go_upto_region 27 with (fail)
        have HG := Lib.hid (fun W => getn_calls (w := W) 35)
        unfold RB prop0 at HG
        go_loopg [119] ns.length (fun gh v119 wx => ∃ j : Nat, Hid (j + gh = ns.length) ∧ v119 = .int .i64 (j : Nat) ∧ Hid (Below w14.heap.size w14 wx))
        case atStart => exact ⟨0, Lib.hid (Nat.zero_add _), rfl, Lib.hid (Below.refl _ _)⟩
        case round =>
          obtain ⟨j, hj, rfl, HB⟩ := hrel
          cases gk with
          | succ g1 =>
            have hj2 : j < ns.length := by have := hj.out; omega
            have hlt : (j : Int) < (ns.length : Int) := by omega
            have HJ := Lib.hid (show j + g1 + 1 = ns.length by have := hj.out; omega)
            obtain ⟨ad, rfl, p0, p1, p2, p3, p4, p5, p6⟩ := at_pub (Kd.C_below HCG.out HB.out) j hj2
            obtain ⟨ad2, rfl, hw2⟩ := (HFW.out.to HB.out).at j hj2
            generalize ns[j] = n at p5 hw2
            have HX := Lib.hid (heap_alloc_new wr (Obj.cells #[.bool false, .bool false, .int .u8 0, .int .u32 0, .slice none 0 0, .string n, .string ⟨#[]⟩] 42))
            have HB1 := Lib.hid (bel1 wr (Obj.cells #[.bool false, .bool false, .int .u8 0, .int .u32 0, .slice none 0 0, .string n, .string ⟨#[]⟩] 42))
            have HW2 := Lib.hid hw2
            obtain ⟨y0, y1, y2, y3, y4, y5, y6⟩ := sevencell HX.out
            clear hj hj2
            go_upto_region 30 with (first
              | (go_at_call 12; (with_reducible refine (HG.out _).mono ?_); rintro e w15 ⟨rfl, hq⟩; have HX2 := Lib.hid (blk_below HX.out hq); have HB2 := Lib.hid (HB1.out.trans (hq.mono HB1.out.size)); clear hq))
            have HB3 := Lib.hid (HB2.out.alloc HB2.out.size (Obj.cells #[.int .i64 0, .int .u32 0, .string ⟨#[]⟩, .string ⟨#[]⟩] 38))
            have HB4 := Lib.hid (HB.out.trans (HB3.out.mono HB.out.size))
            clear y0 y1 y2 y3 y4 y5 y6 p0 p1 p2 p3 p4 p5 p6 hw2
            obtain ⟨y0, y1, y2, y3, y4, y5, y6⟩ := sevencell (blk_alloc HX2.out (Obj.cells #[.int .i64 0, .int .u32 0, .string ⟨#[]⟩, .string ⟨#[]⟩] 38))
            have hw3 := pw_cell_below HB3.out HW2.out
            have hnn : (n.toList == n.toList) = true := beq_self_eq_true _
            clear HX HX2 HB1 HB2 HW2
            generalize w15.alloc (Obj.cells #[.int .i64 0, .int .u32 0, .string ⟨#[]⟩, .string ⟨#[]⟩] 38) = W16 at y0 y1 y2 y3 y4 y5 y6 hw3 HB3 HB4 ⊢
            go_quiet (fail)
            go_wp2
            go_roundg g1
            case measure => omega
            case rel => exact ⟨j + 1, Lib.hid (by have := HJ.out; omega), by first | (push_cast; rfl) | (rw [w64n j (by have := HJ.out; have := HNL.out; omega)]), Lib.hid (HB4.out.trans ((bel_drewN nq).mono HB4.out.size))⟩
          | zero =>
            obtain rfl : j = ns.length := by have := hj.out; omega
            have hlt : ¬ (ns.length : Int) < (ns.length : Int) := by omega
            have HBZ := Lib.hid (fs_below HFR.out (by rw [HQM.out]; exact HMV.out) (HH14.out.below HB.out) (fun q hq => List.mem_cons_of_mem _ (List.mem_cons_of_mem _ (List.mem_cons_of_mem _ hq))))
            clear hj
            go_wp2
            go_ret
            exact ⟨rfl, HBZ.out⟩
end Go.Proofs.YtbfgpkogginmjaaGreatDoor
end
section
namespace Go.Proofs.YtbfgpkogginmjaaGreatDoor
open Go.RowKit Go.Lib Go.Proofs.YtbfgpkogginmjaaGreatDoorW.PrintWords Go.Proofs.YtbfgpkogginmjaaGreatDoor.PSwitchboardGreat
set_option linter.unusedVariables false
theorem fl_nil (w : World) : FL w none [] := ⟨rfl, by decide, fun h => absurd h (Nat.lt_irrefl 0)⟩
theorem fl_of {w : World} {x : Addr} {n : Nat} {Sx : Nat → ByteArray} (hn : n ≤ 9223372036854775807) (h : ∀ j, j < n → w.cell? (x.add j) = some (.string (Sx j))) : FL w (some x) ((List.range n).map Sx) := by
  refine ⟨rfl, by simpa using hn, fun _ => ⟨x, rfl, fun j p hj => ?_⟩⟩
  have hlt : j < n := by
    have := (List.getElem?_eq_some_iff.1 hj).1
    simpa using this
  have hp : p = Sx j := by
    rw [List.getElem?_map, List.getElem?_range hlt] at hj
    exact (Option.some.inj hj).symm
  refine ⟨[.string (Sx j)], rfl, by rw [hp]; rfl, fun i u hu => ?_⟩
  have hi : i = 0 := by
    have := (List.getElem?_eq_some_iff.1 hu).1
    have h1 : [Value.string (Sx j)].length = 1 := rfl
    omega
  subst hi
  obtain rfl : Value.string (Sx j) = u := Option.some.inj hu
  have h2 : j * Kd.string.sz + 0 = j := by
    show j * 1 + 0 = j
    omega
  rw [h2]
  exact h j hlt
theorem alias_calls (a0 : Option Addr) (c0 : Nat) (fs : List ByteArray) (a1 : Option Addr) (c1 : Nat) (ls : List Int) (w : World) (hm : HasM w) (hF : FL w a0 fs) (hc0 : fs.length ≤ c0) (hL : ReadsInt w .u32 a1 ls.length ls) (hc1 : ls.length ≤ c1) (hy : ls.length * 4 ≤ 140737488351232) (hw : ∀ x ∈ ls, (Lit.int .u32 x).wf = true) : Calls Tryz.prog 3 #[.slice a0 fs.length c0, .slice a1 ls.length c1] w (fun e w' => e = .returned (.bool true) ∧ Below w.heap.size w w') :=
  @law_calls ⟨w⟩ w (@Fr.mk ⟨w⟩ w rfl rfl rfl) hm a0 a1 c0 c1 fs ls hF hL hc0 hc1 hw
end Go.Proofs.YtbfgpkogginmjaaGreatDoor
end

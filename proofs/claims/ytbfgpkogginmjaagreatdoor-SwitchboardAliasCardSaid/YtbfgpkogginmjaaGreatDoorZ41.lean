/- Parts of a proof about aliases: G9, G10, G11. -/
import Derived.Test.YtbfgpkogginmjaaGreatDoorZ39
import Derived.Test.YtbfgpkogginmjaaGreatDoorZ40
section
namespace Go.Proofs.YtbfgpkogginmjaaGreatDoor
open Go.RowKit Go.Lib Go.Proofs.YtbfgpkogginmjaaGreatDoorW.PrintWords Go.Proofs.YtbfgpkogginmjaaGreatDoor.PSwitchboardGreat
set_option linter.unusedSectionVars false
variable [LawBase]
set_option linter.unusedVariables false
set_option linter.unusedSimpArgs false
set_option maxRecDepth 1000000
set_option maxHeartbeats 1600000
theorem put_old {w : World} {b clock mt kt et i : Nat} {es : Array MapEntry} {key v v0 : Value} {K : TypeDesc} (ht : Tryz.prog.underlying mt = some (.map kt et)) (hk : Tryz.prog.underlying kt = some K) (hc : MapKept.IsKey K key) (hb : w.heap[b]? = some (.map es clock)) (hf : Instr.findNow K key es.toList 0 = some (some (i, v0))) (hki : (es[i]?).map (·.key) = some key) : (Instr.mapUpdate mt (.map (some b)) key v).run Tryz.prog w = .ok () (ChangeMaps.setBlock w b (.map (es.modify i (fun e => { e with key := key, val := v })) clock)) := by
  have hck := fun e => MapKept.run_checkKey (w := w) hk hc e 9999
  have hkk : ((es[i]?).map (·.key)).getD key = key := by rw [hki]; rfl
  simp [Instr.mapUpdate, run_underlying ht, MapKept.run_getObj_map hb, hck, find_k hk hf, MapKept.run_setObj_map _ hb, Result.andThen, ChangeMaps.setBlock]
  rw [hki]
  simp only [Option.getD_some, MapKept.run_keyThatStays hc]
  exact MapKept.run_setObj_map _ hb
theorem suak_len : (frB 9 0 suakB).length = 6 := by
  rw [← toB_size, suakT_size]
theorem app_ext (a b : ByteArray) : (a ++ b).extract a.size (a ++ b).size = b := by
  have h1 : (a ++ b).data.toList = a.data.toList ++ b.data.toList := by simp
  rw [Lib.extract_eq, h1, ByteArray.size_append, Nat.add_sub_cancel_left, Lib.size_eq a, List.drop_left, Lib.size_eq b, List.take_length]
theorem all_sk (W : World) : Calls Tryz.prog 25 #[.string (toB (frB 9 0 suakB)), .int .i64 1048576] W (fun e w' => ∃ v er, e = .returned (.tuple #[v, .int .i64 er]) ∧ Below W.heap.size W w' ∧ True) := by
  rw [show toB (frB 9 0 suakB) = toB (frsB [(9, 0, suakB)]) from by unfold frsB; show _ = toB (frB 9 0 suakB ++ []); rw [List.append_nil]]
  refine (all_ex (fun _ _ => True) [(9, 0, suakB)] 1048576 (fun x hx => ?_) ?_).mono ?_
  · obtain rfl := List.mem_singleton.1 hx
    refine ⟨⟨by decide, by decide, by decide, by show suakB.size ≤ _; rw [suakB_size]; decide, ?_⟩, fun W2 => ?_⟩
    · show ¬ (1048576 : Int) < (((frB 9 0 suakB).length : Nat) : Int)
      rw [suak_len]; decide
    · refine (parse_sk (w := W2)).mono ?_
      rintro e w' ⟨rfl, hb⟩
      exact ⟨_, _, trivial, rfl, hb⟩
  · show (frB 9 0 suakB ++ []).length ≤ _
    rw [List.append_nil, suak_len]; decide
  · rintro e w' ⟨Vs, A, c, rfl, hb, hrv, h2⟩
    exact ⟨_, 0, rfl, hb, trivial⟩
def AskP (hb : Nat) (lo : Nat → Nat) (esN esL es esR : Array MapEntry) (kN kL k kR iR : Nat) (mO : Obj) (rm : Nat) (mv : MO) (tM : TypeId) (ci rd am tb l came : Nat) (said : ByteArray) (AL : List (Nat × ByteArray)) (inn win pool que s : Nat) (Q : Value) (Z : List (Nat × Obj)) (e : Ending) (w' : World) : Prop := ∃ a, e = .returned (.tuple #[]) ∧ Held w' (SubS hb lo esN esL es kN kL k mO rm (.map (esR.modify iR (fun e => { e with key := .int .i64 1, val := .int .i64 ((said ++ toB (frB 9 0 suakB)).size : Nat) })) kR) mv tM ci rd am tb l (came + (frB 8 2 suB).length) (said ++ toB (frB 9 0 suakB)) AL inn win pool que s Q Z a)
theorem ask_calls1 {w : World} {hb rm kN kL k kR iR m ci rd am tb l inn win pool que s came : Nat} {lo : Nat → Nat} {esN esL es esR : Array MapEntry} {mO : Obj} {mv : MO} {tM : TypeId} {said : ByteArray} {AL : List (Nat × ByteArray)} {Q : Value} {Z : List (Nat × Obj)}
    (H : Held w (hB hb lo (.map esN kN) (.map esL kL) (.map es k) mO mp0 0 rm (.map esR kR) mv tM (lnB 1 ci rd am tb l came ⟨#[]⟩ said subS AL true (seB subS inn win pool que s Q Z))))
    (hL : FInt esL 1 (.pointer (some ⟨l, 0, none⟩))) (hN : FInt esN 1 (.pointer (some ⟨ci, 0, none⟩))) (hes : FStr es subS (.pointer (some ⟨s, 0, none⟩))) (hR : Instr.findNow (.int .i64) (.int .i64 1) esR.toList 0 = some (some (iR, .int .i64 (m : Nat)))) (hRk : (esR[iR]?).map (·.key) = some (.int .i64 1)) (hz : said.size ≤ 10000) (hm : m = said.size) (hcm : came ≤ 100000)
    (hPump : ∀ W x y z mR a, Held W (SubS hb lo esN esL es kN kL k mO rm mR mv tM ci rd am tb l (came + (frB 8 2 suB).length) (said ++ toB (frB 9 0 suakB)) AL inn win pool que s Q (x :: y :: z :: Z) a) → Calls Tryz.prog 46 #[.pointer (some ⟨hb, 0, none⟩)] W (HeldP (.tuple #[]) (SubS hb lo esN esL es kN kL k mO rm mR mv tM ci rd am tb l (came + (frB 8 2 suB).length) (said ++ toB (frB 9 0 suakB)) AL inn win pool que s Q (x :: y :: z :: Z) a))) :
    Calls Tryz.prog 7 #[houV hb rm, .int .i64 1, .string ⟨#[35]⟩, .int .u8 0] w (AskP hb lo esN esL es esR kN kL k kR iR mO rm mv tM ci rd am tb l came said AL inn win pool que s Q Z) := by
  unfold houV
  have HH := Lib.hid (show Held (((w.alloc (Obj.cells #[.pointer (some ⟨hb, 0, none⟩), .map (some rm)] 27)).alloc (Obj.cells #[.string ⟨#[35]⟩, .int .u8 0, .bool false, .bool false, .int .u8 0] 83)).alloc (Obj.cells #[.iface 88 (.agg #[.int .u32 1, .slice none 0 0, .slice (some ⟨w.heap.size + 1, 0, none⟩) 1 1])] 81)) (hB hb lo (.map esN kN) (.map esL kL) (.map es k) mO mp0 0 rm (.map esR kR) mv tM (lnB 1 ci rd am tb l came ⟨#[]⟩ said subS AL true (seB subS inn win pool que s Q ((w.heap.size, houO hb rm) :: (w.heap.size + 1, (Obj.cells #[.string ⟨#[35]⟩, .int .u8 0, .bool false, .bool false, .int .u8 0] 83)) :: (w.heap.size + 2, (Obj.cells #[.iface 88 (.agg #[.int .u32 1, .slice none 0 0, .slice (some ⟨w.heap.size + 1, 0, none⟩) 1 1])] 81)) :: Z)))) from by
    have h := ((H.alloc (Obj.cells #[.pointer (some ⟨hb, 0, none⟩), .map (some rm)] 27) rfl).alloc (Obj.cells #[.string ⟨#[35]⟩, .int .u8 0, .bool false, .bool false, .int .u8 0] 83) rfl).alloc (Obj.cells #[.iface 88 (.agg #[.int .u32 1, .slice none 0 0, .slice (some ⟨w.heap.size + 1, 0, none⟩) 1 1])] 81) rfl
    simp only [World.size_alloc, List.append_assoc, List.cons_append, List.nil_append] at h
    exact app_mid (A := hB hb lo (.map esN kN) (.map esL kL) (.map es k) mO mp0 0 rm (.map esR kR) mv tM (lnB 1 ci rd am tb l came ⟨#[]⟩ said subS AL true (seB subS inn win pool que s Q []))) (X := Z) (N := [(w.heap.size, houO hb rm), (w.heap.size + 1, (Obj.cells #[.string ⟨#[35]⟩, .int .u8 0, .bool false, .bool false, .int .u8 0] 83)), (w.heap.size + 2, (Obj.cells #[.iface 88 (.agg #[.int .u32 1, .slice none 0 0, .slice (some ⟨w.heap.size + 1, 0, none⟩) 1 1])] 81))]) h)
  have HSL := Lib.hid (show SL (((w.alloc (Obj.cells #[.pointer (some ⟨hb, 0, none⟩), .map (some rm)] 27)).alloc (Obj.cells #[.string ⟨#[35]⟩, .int .u8 0, .bool false, .bool false, .int .u8 0] 83)).alloc (Obj.cells #[.iface 88 (.agg #[.int .u32 1, .slice none 0 0, .slice (some ⟨w.heap.size + 1, 0, none⟩) 1 1])] 81)) (some ⟨w.heap.size + 1, 0, none⟩) [hsB] from su_sl ⟨#[], HH.out.get 34 rfl⟩)
  have HBW := Lib.hid (fun W x (hW : Held W ((hB hb lo (.map esN kN) (.map esL kL) (.map es k) mO mp0 0 rm (.map esR kR) mv tM (lnB 1 ci rd am tb l came ⟨#[]⟩ said subS AL true (seB subS inn win pool que s Q ((w.heap.size, houO hb rm) :: (w.heap.size + 1, (Obj.cells #[.string ⟨#[35]⟩, .int .u8 0, .bool false, .bool false, .int .u8 0] 83)) :: (w.heap.size + 2, (Obj.cells #[.iface 88 (.agg #[.int .u32 1, .slice none 0 0, .slice (some ⟨w.heap.size + 1, 0, none⟩) 1 1])] 81)) :: Z)))) ++ [x])) => show Calls Tryz.prog 21 #[.pointer (some ⟨hb, 0, none⟩), .int .i64 1, .string (toB (frB 8 2 suB))] W (HeldP (.int .i64 0) ((hB hb lo (.map esN kN) (.map esL kL) (.map es k) mO mp0 0 rm (.map esR kR) mv tM (lnB 1 ci rd am tb l came (toB (frB 8 2 suB)) said subS AL true (seB subS inn win pool que s Q ((w.heap.size, houO hb rm) :: (w.heap.size + 1, (Obj.cells #[.string ⟨#[35]⟩, .int .u8 0, .bool false, .bool false, .int .u8 0] 83)) :: (w.heap.size + 2, (Obj.cells #[.iface 88 (.agg #[.int .u32 1, .slice none 0 0, .slice (some ⟨w.heap.size + 1, 0, none⟩) 1 1])] 81)) :: Z)))) ++ [x])) from by
    have h := bwrite_calls (s := toB (frB 8 2 suB)) hW (i0 := 0) (i4 := 2) (i5 := 1) (i6 := 25) rfl rfl rfl hN rfl (by rw [toB_size, suF_len]; decide)
    rw [empty_app] at h
    exact h)
  have HSY := Lib.hid (say1_calls (V := .iface 88 (.agg #[.int .u32 1, .slice none 0 0, .slice (some ⟨w.heap.size + 1, 0, none⟩) 1 1])) (c := 1) (rm := rm) (cc := 1) HH.out (ip := 35) rfl (fun W hb2 => su_text (HSL.out.to hb2)) HBW.out (fun W => ∃ a, Held W (SubS hb lo esN esL es kN kL k mO rm (.map esR kR) mv tM ci rd am tb l (came + (frB 8 2 suB).length) (said ++ toB (frB 9 0 suakB)) AL inn win pool que s Q ((w.heap.size, houO hb rm) :: (w.heap.size + 1, (Obj.cells #[.string ⟨#[35]⟩, .int .u8 0, .bool false, .bool false, .int .u8 0] 83)) :: (w.heap.size + 2, (Obj.cells #[.iface 88 (.agg #[.int .u32 1, .slice none 0 0, .slice (some ⟨w.heap.size + 1, 0, none⟩) 1 1])] 81)) :: Z) a)) (fun W hW => chunk_su hW hL hN hes (by omega) hcm (fun W a hw => hPump W (w.heap.size, houO hb rm) (w.heap.size + 1, (Obj.cells #[.string ⟨#[35]⟩, .int .u8 0, .bool false, .bool false, .int .u8 0] 83)) (w.heap.size + 2, (Obj.cells #[.iface 88 (.agg #[.int .u32 1, .slice none 0 0, .slice (some ⟨w.heap.size + 1, 0, none⟩) 1 1])] 81)) (.map esR kR) a hw)))
  unfold RetP houV at HSY
  have HSZ := Lib.hid (show (said ++ toB (frB 9 0 suakB)).size ≤ 100000 from by rw [ByteArray.size_append, suakT_size]; omega)
  have HMZ := Lib.hid (show m ≤ (said ++ toB (frB 9 0 suakB)).size from by rw [ByteArray.size_append]; omega)
  have HME := Lib.hid (show (said ++ toB (frB 9 0 suakB)).extract m (said ++ toB (frB 9 0 suakB)).size = toB (frB 9 0 suakB) from by rw [hm]; exact app_ext _ _)
  have HNN := Lib.hid hN
  have HRR := Lib.hid hR
  have HRK := Lib.hid hRk
  obtain ⟨x0, x1⟩ := twocell (heap_alloc_new w (Obj.cells #[.pointer (some ⟨hb, 0, none⟩), .map (some rm)] 27))
  clear H hL hN hes hR hRk hz hm hcm hPump HSL HBW
  go_enter Tryz.func7, Tryz.ntmps7
  go_upto_region 2 with (first
    | (go_at_call 9; (with_reducible refine (HSY.out).mono ?_); rintro e w2 ⟨rfl, a, hq⟩; have HH3 := Lib.hid hq; clear hq))
  clear x0 x1 HSY HH
  obtain ⟨x0, x1⟩ := twocell (HH3.out.get 36 rfl)
  have HHE := Lib.hid (hear_calls (fun _ _ => True) HH3.out (hb := hb) (ir := 23) (c := 1) (said := (said ++ toB (frB 9 0 suakB))) (m := m) (k2 := kR) (es2 := (esR.modify iR (fun e => { e with key := .int .i64 1, val := .int .i64 ((said ++ toB (frB 9 0 suakB)).size : Nat) }))) rfl (fun W x hW => bsaid_calls hW (i0 := 0) (i4 := 2) (i5 := 1) (i6 := 25) rfl rfl rfl HNN.out rfl) (fun W hm => look_h0 Tryz.underlying25 Tryz.underlying3 (by simp [MapKept.IsKey]) hm HRR.out) (fun W hm => put_old Tryz.underlying25 Tryz.underlying3 (by simp [MapKept.IsKey]) hm HRR.out HRK.out) (fun W => by rw [HME.out]; exact all_sk W) (fun _ _ _ _ _ _ => trivial) HMZ.out (by have := HSZ.out; omega))
  unfold HearP houV at HHE
  go_wp2_with (first
    | (go_at_call 11; (with_reducible refine (HHE.out).mono ?_); rintro e w3 ⟨v, rfl, _, hq⟩; have HH4 := Lib.hid (show Held w3 (SubS hb lo esN esL es kN kL k mO rm (.map (esR.modify iR (fun e => { e with key := .int .i64 1, val := .int .i64 ((said ++ toB (frB 9 0 suakB)).size : Nat) })) kR) mv tM ci rd am tb l (came + (frB 8 2 suB).length) (said ++ toB (frB 9 0 suakB)) AL inn win pool que s Q ((w.heap.size, houO hb rm) :: (w.heap.size + 1, (Obj.cells #[.string ⟨#[35]⟩, .int .u8 0, .bool false, .bool false, .int .u8 0] 83)) :: (w.heap.size + 2, (Obj.cells #[.iface 88 (.agg #[.int .u32 1, .slice none 0 0, .slice (some ⟨w.heap.size + 1, 0, none⟩) 1 1])] 81)) :: Z) a) from hq); clear hq))
  go_end0
  refine ⟨a, rfl, HH4.out.sub ?_⟩
  exact show (SubS hb lo esN esL es kN kL k mO rm (.map (esR.modify iR (fun e => { e with key := .int .i64 1, val := .int .i64 ((said ++ toB (frB 9 0 suakB)).size : Nat) })) kR) mv tM ci rd am tb l (came + (frB 8 2 suB).length) (said ++ toB (frB 9 0 suakB)) AL inn win pool que s Q [] a ++ Z).Sublist (SubS hb lo esN esL es kN kL k mO rm (.map (esR.modify iR (fun e => { e with key := .int .i64 1, val := .int .i64 ((said ++ toB (frB 9 0 suakB)).size : Nat) })) kR) mv tM ci rd am tb l (came + (frB 8 2 suB).length) (said ++ toB (frB 9 0 suakB)) AL inn win pool que s Q [] a ++ ((w.heap.size, houO hb rm) :: (w.heap.size + 1, (Obj.cells #[.string ⟨#[35]⟩, .int .u8 0, .bool false, .bool false, .int .u8 0] 83)) :: (w.heap.size + 2, (Obj.cells #[.iface 88 (.agg #[.int .u32 1, .slice none 0 0, .slice (some ⟨w.heap.size + 1, 0, none⟩) 1 1])] 81)) :: Z)) from List.Sublist.append_left (((List.sublist_cons_self _ _).trans (List.sublist_cons_self _ _)).trans (List.sublist_cons_self _ _)) _
structure PP where
  hb : Nat
  lo : Nat → Nat
  esN : Array MapEntry
  esL : Array MapEntry
  es : Array MapEntry
  kN : Nat
  kL : Nat
  k : Nat
  rm : Nat
  mR : Obj
  mv : MO
  tM : TypeId
  a : Nat
  ci1 : Nat
  rd1 : Nat
  am1 : Nat
  tb1 : Nat
  l1 : Nat
  inn1 : Nat
  win1 : Nat
  pool1 : Nat
  que1 : Nat
  s1 : Nat
  came1 : Nat
  ci0 : Nat
  rd0 : Nat
  am0 : Nat
  tb0 : Nat
  l0 : Nat
  inn0 : Nat
  win0 : Nat
  pool0 : Nat
  que0 : Nat
  s0 : Nat
  said0 : ByteArray
structure PP.Ok (p : PP) : Prop where
  L0 : FInt p.esL 0 (.pointer (some ⟨p.l0, 0, none⟩))
  L1 : FInt p.esL 1 (.pointer (some ⟨p.l1, 0, none⟩))
  N0 : FInt p.esN 0 (.pointer (some ⟨p.ci0, 0, none⟩))
  N1 : FInt p.esN 1 (.pointer (some ⟨p.ci1, 0, none⟩))
  e0 : FStr p.es pubS (.pointer (some ⟨p.s0, 0, none⟩))
  e1 : FStr p.es subS (.pointer (some ⟨p.s1, 0, none⟩))
def FS (p : PP) (came0 : Nat) (wait0 said1 : ByteArray) (AL : List (Nat × ByteArray)) (Q0 Q1 : Value) (X : List (Nat × Obj)) : List (Nat × Obj) := hB p.hb p.lo (.map p.esN p.kN) (.map p.esL p.kL) (.map p.es p.k) (ofO2 p.l0 p.l1) (hashO p.a) 1 p.rm p.mR p.mv p.tM (lnB 1 p.ci1 p.rd1 p.am1 p.tb1 p.l1 p.came1 ⟨#[]⟩ said1 subS [] true (seB subS p.inn1 p.win1 p.pool1 p.que1 p.s1 Q1 ((p.a, .map #[] 0) :: (p.a + 1, .map #[⟨.string subS, keptV, 0⟩] 1) :: (p.a + 2, nodeO p.a (p.a + 1)) :: lnB 0 p.ci0 p.rd0 p.am0 p.tb0 p.l0 came0 wait0 p.said0 pubS AL true (seB pubS p.inn0 p.win0 p.pool0 p.que0 p.s0 Q0 X))))
def NmOk (AL AL1 : List (Nat × ByteArray)) (a : Nat) (T n : ByteArray) : Prop := (T = n ∧ AL1 = ptL AL a n) ∨ (T = ⟨#[]⟩ ∧ gtL AL a = some n ∧ AL1 = AL)
theorem nm_calls {w : World} {L : List (Nat × Obj)} {tb am it ia c a : Nat} {A : Option Addr} {AL AL1 : List (Nat × ByteArray)} {T n : ByteArray} (H : Held w L) (ht : L[it]? = some (tb, tabO am)) (hm : L[ia]? = some (am, amO AL)) (hp : PO w 0 (fun _ => True) (.slice A 1 c) [alP a]) (hnm : NmOk AL AL1 a T n) (ha : 1 ≤ a ∧ a ≤ 9) (hn : NmB n) (h0 : 0 < n.size) (h8 : n.size ≤ 8) : Calls Tryz.prog 151 #[.pointer (some ⟨tb, 0, none⟩), pbV A c T] w (SetNP w am AL1 n) := by
  rcases hnm with ⟨rfl, rfl⟩ | ⟨rfl, hg, rfl⟩
  · exact tname_set (H.get it ht) (H.get ia hm) (PO.pl hp).1 (PO.pl hp).2 ha hn h0 h8
  · refine (tname_look (H.get it ht) (H.get ia hm) (PO.pl hp).1 (PO.pl hp).2 ha hg).mono ?_
    rintro e w' ⟨rfl, hb⟩
    exact ⟨rfl, (hb.block _ (blk_lt (H.get ia hm))).trans (H.get ia hm), Chg.of_below hb⟩
theorem al_len (T : ByteArray) (a : Nat) (ha : 1 ≤ a ∧ a ≤ 9) (hz : T.size ≤ 100) : (frB 3 0 (alB T a)).length = T.size + 8 := by
  unfold frB
  rw [alB_size T a ha, varU_lt (by omega), List.length_cons, List.length_append, ← Lib.size_eq, alB_size T a ha]
  show 1 + (T.size + 6) + 1 = _
  omega
theorem chunk_pub {w : World} (p : PP) (hp : p.Ok) {came0 a : Nat} {said1 T n : ByteArray} {AL AL1 : List (Nat × ByteArray)} {X : List (Nat × Obj)}
    (H : Held w (FS p came0 (toB (frB 3 0 (alB T a))) said1 AL (.slice none 0 0) (.slice none 0 0) X)) (hnm : NmOk AL AL1 a T n) (ha : 1 ≤ a ∧ a ≤ 9) (hT : Asc T) (hTz : T.size ≤ 8) (hn : NmB n) (h0 : 0 < n.size) (h8 : n.size ≤ 8) (hz : said1.size ≤ 1000000) (hcm : came0 ≤ 1000000) :
    Calls Tryz.prog 23 #[.pointer (some ⟨p.hb, 0, none⟩), .int .i64 0, .int .i64 1048576] w (RetP (.int .i64 0) (fun W => Held W (FS p (came0 + (T.size + 8)) ⟨#[]⟩ (said1 ++ toB (frB 3 0 (pubB n))) AL1 (.slice none 0 0) (.slice none 0 0) X))) := by
  have hlen := al_len T a ha (by omega)
  rw [← hlen]
  refine chunk_ex H (i0 := 0) (i2 := 3) (il := 40) (ir := 37) (i4 := 2) (i5 := 1) (i6 := 36) (k := 3) (f := 0) (B := alB T a) rfl rfl hp.L0 rfl rfl rfl rfl hp.N0 rfl (by decide) (by decide) rfl (by rw [alB_size T a ha]; omega) (by omega) (fun W => ∃ mb c, 1 ≤ c ∧ Row1 W mb 278 (msgC pubS n) ∧ Held W (FS p (came0 + (frB 3 0 (alB T a)).length) ⟨#[]⟩ said1 AL1 (.slice none 0 0) (.slice (some ⟨mb, 0, none⟩) 1 c) X)) (fun W => ∃ A c, Held W (FS p (came0 + (frB 3 0 (alB T a)).length) ⟨#[]⟩ (said1 ++ toB (frB 3 0 (pubB n))) AL1 (.slice none 0 0) (.slice A 0 c) X)) _ ?_ ?_ ?_ ?_ ?_
  · intro W HW
    refine frame_45 HW (held_M HW (i := 24) rfl) (il := 40) rfl (fun W u => ∃ A c, u = pbV A c T ∧ PO W 0 (fun _ => True) (.slice A 1 c) [alP a]) _ (fun W2 _ => parse_al T hT (by omega) a ha) (fun W2 W3 u h hb2 => ?_) (fun W2 u HW2 hM2 hq => ?_) (fun W2 h2 => ?_) (fun W2 W3 h2 hb2 => ?_)
    · obtain ⟨A, c, rfl, hpo⟩ := h
      exact ⟨A, c, rfl, PO.below hpo hb2⟩
    · obtain ⟨A, c, rfl, hpo⟩ := hq
      refine receive_pub HW2 hM2 _ (i0 := 0) (il := 40) (i2 := 4) rfl rfl rfl hp.e0 (fun W3 hb3 => ?_)
      refine (publish_ex (HW2.below hb3) (PO.below hpo hb3) (il := 40) (ia := 38) (i0 := 0) (i2 := 4) (is := 32) (iq := 31) (j0 := 14) (j1 := 9) (j2 := 8) (j3 := 6) (j4 := 35) (j5 := 34) (j6 := 13) (j7 := 12) (j8 := 10) (AL1 := AL1) (n := n) rfl rfl (fun W4 hW4 hp4 => nm_calls hW4 (it := 39) (ia := 38) rfl rfl hp4 hnm ha hn h0 h8) rfl rfl rfl hp.e1 rfl rfl rfl rfl rfl rfl rfl rfl rfl rfl rfl (hM2.to hb3) hn h0 (by omega)).mono ?_
      rintro e w' ⟨mb, c2, rfl, hc2, hrow, hh⟩
      exact ⟨rfl, mb, c2, hc2, hrow, hh⟩
    · obtain ⟨mb, c, _, _, HX⟩ := h2
      exact HX.get 40 rfl
    · obtain ⟨mb, c, h1, h3, HX⟩ := h2
      exact ⟨mb, c, h1, h3.below hb2, HX.below hb2⟩
  · rintro W ⟨mb, c, hc1, hrow, HW⟩
    refine (pump_msg HW (i0 := 0) (i1 := 5) (i2 := 4) (is0 := 43) (iw0 := 41) (iq0 := 42) (is1 := 32) (iw1 := 30) (iq1 := 31) (i3 := 29) (i4 := 2) (i5 := 1) (i6 := 25) (by decide) rfl rfl rfl hp.e0 rfl rfl rfl hp.e1 rfl rfl rfl rfl rfl rfl hp.N1 rfl hz hrow (by omega)).mono ?_
    rintro e w' ⟨A, c2, rfl, hh⟩
    exact ⟨rfl, A, c2, hh⟩
  · rintro W ⟨A, c, HW⟩
    refine (pump_two HW (i0 := 0) (i1 := 5) (i2 := 4) (is0 := 43) (iw0 := 41) (iq0 := 42) (is1 := 32) (iw1 := 30) (iq1 := 31) (by decide) rfl rfl rfl hp.e0 rfl rfl rfl hp.e1 rfl rfl rfl).mono ?_
    rintro e w' ⟨rfl, hh⟩
    exact ⟨rfl, hh⟩
  · rintro W ⟨A, c, HW⟩
    exact ⟨HW.get 0 rfl, HW.get 3 rfl, (sixcell (HW.get 40 rfl)).2.1, HW.get 37 rfl⟩
  · rintro W W' ⟨A, c, HW⟩ hc hr
    exact ⟨A, c, held_rd HW (i := 37) rfl hc hr⟩
theorem al_pl {w : World} {B a : Nat} (h : w.heap[B]? = some (.cells #[.int .i64 35, .int .u32 (a : Nat), .string ⟨#[]⟩, .string ⟨#[]⟩] 38)) : PL w (some ⟨B, 0, none⟩) [alP a] := by
  refine ⟨rfl, by show 1 ≤ 9223372036854775807; decide, fun _ => ⟨⟨B, 0, none⟩, rfl, fun j p hp => ?_⟩⟩
  have hcell : ∀ i u, (#[Value.int .i64 35, .int .u32 (a : Nat), .string ⟨#[]⟩, .string ⟨#[]⟩] : Array Value)[i]? = some u → w.cell? ⟨B, i, none⟩ = some u := fun i u hu => (blk_cell h i).trans hu
  have hj : j = 0 := by
    have := (List.getElem?_eq_some_iff.1 hp).1
    have h3 : (List.map PR.m [alP a]).length = 1 := rfl
    omega
  subst hj
  obtain rfl : (⟨35, (a : Int), ⟨#[]⟩, ⟨#[]⟩⟩ : S144) = p := Option.some.inj hp
  exact ⟨_, rfl, k144_mk w _, fun i u hu => by
      have := (List.getElem?_eq_some_iff.1 hu).1
      have h4 : i < 4 := this
      rcases (show i = 0 ∨ i = 1 ∨ i = 2 ∨ i = 3 by omega) with rfl | rfl | rfl | rfl <;> exact hcell _ _ hu⟩
theorem say_al {w : World} (p : PP) (hp : p.Ok) {came0 a qb pb : Nat} {said1 T n : ByteArray} {AL AL1 : List (Nat × ByteArray)} {X : List (Nat × Obj)}
    (H : Held w (FS p came0 ⟨#[]⟩ said1 AL (.slice none 0 0) (.slice none 0 0) ((qb, (Obj.cells #[.int .i64 35, .int .u32 (a : Nat), .string ⟨#[]⟩, .string ⟨#[]⟩] 38)) :: (pb, (Obj.cells #[.iface 45 (pbV (some ⟨qb, 0, none⟩) 1 T)] 81)) :: X))) (hnm : NmOk AL AL1 a T n) (ha : 1 ≤ a ∧ a ≤ 9) (hT : Asc T) (hTz : T.size ≤ 8) (hn : NmB n) (h0 : 0 < n.size) (h8 : n.size ≤ 8) (hz : said1.size ≤ 1000000) (hcm : came0 ≤ 1000000) :
    Calls Tryz.prog 9 #[houV p.hb p.rm, .int .i64 0, .slice (some ⟨pb, 0, none⟩) 1 1] w (RetP (.tuple #[]) (fun W => Held W (FS p (came0 + (T.size + 8)) ⟨#[]⟩ (said1 ++ toB (frB 3 0 (pubB n))) AL1 (.slice none 0 0) (.slice none 0 0) ((qb, (Obj.cells #[.int .i64 35, .int .u32 (a : Nat), .string ⟨#[]⟩, .string ⟨#[]⟩] 38)) :: (pb, (Obj.cells #[.iface 45 (pbV (some ⟨qb, 0, none⟩) 1 T)] 81)) :: X)))) := by
  have hpl := al_pl (H.get 44 rfl)
  refine say1_calls (L1 := FS p came0 (toB (frB 3 0 (alB T a))) said1 AL (.slice none 0 0) (.slice none 0 0) ((qb, (Obj.cells #[.int .i64 35, .int .u32 (a : Nat), .string ⟨#[]⟩, .string ⟨#[]⟩] 38)) :: (pb, (Obj.cells #[.iface 45 (pbV (some ⟨qb, 0, none⟩) 1 T)] 81)) :: X)) (txt := toB (frB 3 0 (alB T a))) H (ip := 45) rfl (fun W hb => al_text T (by omega) a ha (hpl.to hb) (Nat.le_refl _)) (fun W x hW => ?_) _ (fun W hW => chunk_pub p hp hW hnm ha hT hTz hn h0 h8 hz hcm)
  have h := bwrite_calls (s := toB (frB 3 0 (alB T a))) hW (i0 := 0) (i4 := 2) (i5 := 1) (i6 := 36) rfl rfl rfl hp.N0 rfl (by rw [toB_size, al_len T a ha (by omega)]; show 0 + _ ≤ _; omega)
  rw [empty_app] at h
  exact h
theorem fN0 : Instr.findNow (.int .i64) (.int .i64 0) (#[] : Array MapEntry).toList 0 = some none := rfl
theorem fN1 (v : Value) (k : Nat) : Instr.findNow (.int .i64) (.int .i64 1) ((#[] : Array MapEntry).push ⟨.int .i64 0, v, k⟩).toList 0 = some none := rfl
theorem pN0 (v : Value) (k : Nat) : FInt ((#[] : Array MapEntry).push ⟨.int .i64 0, v, k⟩) 0 v := ⟨0, rfl⟩
theorem pN10 (u v : Value) (k j : Nat) : FInt (((#[] : Array MapEntry).push ⟨.int .i64 0, u, k⟩).push ⟨.int .i64 1, v, j⟩) 0 u := ⟨0, rfl⟩
theorem pN1 (u v : Value) (k j : Nat) : FInt (((#[] : Array MapEntry).push ⟨.int .i64 0, u, k⟩).push ⟨.int .i64 1, v, j⟩) 1 v := ⟨1, rfl⟩
theorem fS0 : Instr.findNow .string (.string pubS) (#[] : Array MapEntry).toList 0 = some none := rfl
theorem fS1 (v : Value) (k : Nat) : Instr.findNow .string (.string subS) ((#[] : Array MapEntry).push ⟨.string pubS, v, k⟩).toList 0 = some none := rfl
theorem pS0 (v : Value) (k : Nat) : FStr ((#[] : Array MapEntry).push ⟨.string pubS, v, k⟩) pubS v := ⟨0, rfl⟩
theorem pS10 (u v : Value) (k j : Nat) : FStr (((#[] : Array MapEntry).push ⟨.string pubS, u, k⟩).push ⟨.string subS, v, j⟩) pubS u := ⟨0, rfl⟩
theorem pS1 (u v : Value) (k j : Nat) : FStr (((#[] : Array MapEntry).push ⟨.string pubS, u, k⟩).push ⟨.string subS, v, j⟩) subS v := ⟨1, rfl⟩
end Go.Proofs.YtbfgpkogginmjaaGreatDoor
end

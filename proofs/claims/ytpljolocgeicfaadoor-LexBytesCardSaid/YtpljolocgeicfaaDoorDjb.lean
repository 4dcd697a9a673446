/- A part of the abstract machine and of the proof that the program does what it reckons; no conditions. -/
import Derived.Test.YtpljolocgeicfaaDoorDj
namespace Dt
open Go Go.RowKit
/-! ### Strings once more, and maps -/
section more
variable {R : Type} {A : Alg R} {P : Program} {call : Nat → List AVal → Heap → (AVal → Heap → R) → R} {vs ts : List AVal} {ρ : Env} {H : Heap} {w : World} {K : AVal → Heap → R}

theorem get_sget (s : ByteArray) (j : Nat) : (s.get! j).toNat = sget (codeOf s.data.toList) j := by
  rw [sget_eq]
  rcases Nat.lt_or_ge j s.data.toList.length with h | h
  · rw [codeOf_get _ _ h]
    have h' : j < s.data.size := by simpa using h
    have : s.get! j = s.data[j] := by
      show s.data[j]! = _
      rw [getElem!_pos s.data j h']
    rw [this]
    simp
  · have h1 := codeOf_lt s.data.toList
    have h2 : codeOf s.data.toList < 256 ^ j := Nat.lt_of_lt_of_le h1 (Nat.pow_le_pow_right (by omega) h)
    rw [Nat.div_eq_of_lt h2]
    have h' : ¬ j < s.data.size := by
      have : s.data.toList.length = s.data.size := by simp
      omega
    have : s.get! j = default := by
      show s.data[j]! = _
      rw [getElem!_neg s.data j h']
    rw [this]
    rfl

theorem decode_eq (s : ByteArray) (i : Nat) : Utf8.decode s i = decN s.size (codeOf s.data.toList) i := by
  unfold Utf8.decode decN
  simp only [get_sget]
  rfl

theorem encode_eq (r : Int) : (Utf8.encode r).size = (encN r).1 ∧ codeOf (Utf8.encode r).data.toList = (encN r).2 := by
  unfold Utf8.encode encN
  have hre : Utf8.runeError = 0xFFFD := rfl
  rw [hre]
  generalize (if Utf8.valid r then r.toNat else 0xFFFD) = c
  simp only
  by_cases h1 : c < 0x80
  · rw [if_pos h1, if_pos h1]
    constructor
    · rfl
    · simp [codeOf]
  · rw [if_neg h1, if_neg h1]
    by_cases h2 : c < 0x800
    · rw [if_pos h2, if_pos h2]
      constructor
      · rfl
      · simp [codeOf]
    · rw [if_neg h2, if_neg h2]
      by_cases h3 : c < 0x10000
      · rw [if_pos h3, if_pos h3]
        constructor
        · rfl
        · simp [codeOf]
      · rw [if_neg h3, if_neg h3]
        constructor
        · rfl
        · simp [codeOf]

theorem y_convIS {s d : TypeId} {k' : IntKind} (hs : P.underlying s = some (.int k')) (hd : P.underlying d = some .string) {x : Opd} {u : Value} (hx : VRel ρ (x.get vs ts) u) (hH : HRel ρ H w) (h : A.holds (evI A call (.convIS x) vs ts H K)) :
    Yields P (convert s d u) ρ H w (fun x H => A.holds (K x H)) := by
  simp only [evI] at h
  generalize x.get vs ts = X at hx h
  cases hx <;> try exact (A.fail_no h).elim
  rename_i k n
  simp only [fN_eq] at h
  obtain ⟨e1, e2⟩ := encode_eq n
  refine Yields.here (v := .string (Utf8.encode n)) hH h (by simp [convert, run_underlying hs, run_underlying hd, Conv.intToString]) ?_
  rw [← e1, ← e2]
  exact .str _

theorem bcode_some : ∀ (rows : List (List AVal)) (c : Nat), bcode rows = some c → ∃ ds : List Nat, rows = ds.map (fun d => [AVal.int .u8 (.ofNat d)]) ∧ c = codeOf (ds.map UInt8.ofNat)
  | [], c, h => by simp [bcode] at h; exact ⟨[], rfl, h.symm⟩
  | row :: l, c, h => by
    simp only [bcode] at h
    split at h
    · rename_i d
      split at h
      · rename_i c' hc'
        obtain ⟨ds, h1, h2⟩ := bcode_some l c' hc'
        simp at h
        subst h
        exact ⟨d :: ds, by simp [h1], by simp [codeOf, h2]⟩
      · cases h
    · cases h

theorem foldl_bytes : ∀ (ds : List Nat) (s : ByteArray), ((ds.map fun d => (Int.ofNat d)).foldl (fun r n => r.push (UInt8.ofNat n.toNat)) s).data.toList = s.data.toList ++ ds.map UInt8.ofNat
  | [], s => by simp
  | d :: ds, s => by
    simp only [List.map_cons, List.foldl_cons]
    rw [foldl_bytes ds]
    simp

theorem vrels_bytes : ∀ {ds : List Nat} {us : List Value}, VRels ρ (ds.map fun d => AVal.int .u8 (.ofNat d)) us → us = (ds.map fun d => (Int.ofNat d)).map (Value.int .u8)
  | [], us, h => by cases h; rfl
  | d :: ds, us, h => by
    cases h with
    | cons h1 h2 =>
      cases h1
      rw [vrels_bytes h2]
      rfl

theorem y_convBS {s d e : TypeId} (hs : P.underlying s = some (.slice e)) (he : P.underlying e = some (.int .u8)) (hd : P.underlying d = some .string) {x : Opd} {u : Value} (hx : VRel ρ (x.get vs ts) u) (hH : HRel ρ H w) (h : A.holds (evI A call (.convBS x) vs ts H K)) :
    Yields P (convert s d u) ρ H w (fun x H => A.holds (K x H)) := by
  simp only [evI] at h
  cases hr : rowsOf H 1 (x.get vs ts) with
  | none => rw [hr] at h; exact (A.fail_no h).elim
  | some rows =>
    rw [hr] at h
    simp only at h
    cases hb : bcode rows with
    | none => rw [hb] at h; exact (A.fail_no h).elim
    | some c =>
      rw [hb] at h
      simp only [fN_eq] at h
      obtain ⟨a, cap, us, hu, hl, hrel, ho, hrow, hn, hcell⟩ := rowsOf_rel hx hH hr
      obtain ⟨ds, rfl, rfl⟩ := bcode_some _ _ hb
      have hfl : (ds.map (fun d => [AVal.int .u8 (.ofNat d)])).flatten = ds.map fun d => AVal.int .u8 (.ofNat d) := by
        clear hb hr hl hn hrow hcell hrel hu h
        induction ds with
        | nil => rfl
        | cons d ds ih => simp only [List.map_cons, List.flatten_cons, ih]; rfl
      rw [hfl] at hrel
      have hus := vrels_bytes hrel
      have hlen : rlen (ds.map fun d => [AVal.int .u8 (.ofNat d)]) = ds.length := by rw [rlen_eq]; simp
      rw [hlen] at h
      have key : ∃ S : ByteArray, (convert s d u).run P w = .ok (.string S) w ∧ S.data.toList = ds.map UInt8.ofNat := by
        subst hu
        rw [run_convert_bytes_string w s d e a _ cap hs he hd]
        cases a with
        | none =>
          obtain ⟨h0, _⟩ := hn rfl
          have : ds = [] := by simpa using h0
          subst this
          exact ⟨ByteArray.empty, by simp [Conv.bytesToString], rfl⟩
        | some ad =>
          have hc := run_loadCells_list (P := P) w ad us (hcell ad rfl)
          have hl' : us.length = (ds.map fun d => [AVal.int .u8 (.ofNat d)]).length := by simpa using hl
          rw [hl', hus] at hc
          refine ⟨_, run_bytesToString w ad _ cap _ hc, ?_⟩
          rw [foldl_bytes]
          simp
      obtain ⟨S, h1, h2⟩ := key
      refine Yields.here (v := .string S) hH h h1 ?_
      have e1 : S.size = ds.length := by
        have : S.data.toList.length = ds.length := by rw [h2]; simp
        simpa using this
      rw [← e1, ← h2]
      exact .str S

/-! Ranges over strings. -/
theorem y_rngS {t : TypeId} (ht : P.underlying t = some .string) {x : Opd} {u : Value} (hx : VRel ρ (x.get vs ts) u) (hH : HRel ρ H w) (h : A.holds (evI A call (.rngS x) vs ts H K)) :
    Yields P (Instr.range t u) ρ H w (fun x H => A.holds (K x H)) := by
  simp only [evI] at h
  generalize x.get vs ts = X at hx h
  cases hx <;> try exact (A.fail_no h).elim
  rename_i s
  obtain ⟨_, h⟩ := hAdd_holds h
  refine ⟨_, _, ρ.add H.next ⟨w.heap.size, 0, 0, 0, 0⟩, .pointer (some ⟨w.heap.size, 0, none⟩), w.alloc (.stringIter s 0), h, ?_, ?_, Step.allocB hH _ _ _ rfl ⟨rfl, _, heap_push_new _ _, s, rfl, rfl, rfl⟩⟩
  · simp [Instr.range, run_underlying ht]
  · have := VRel.ptr (ρ := ρ.add H.next ⟨w.heap.size, 0, 0, 0, 0⟩) Env.add_same 0 0
    simpa using this

theorem run_getObj_siter {r : Nat} {s : ByteArray} {p : Nat} (hb : w.heap[r]? = some (.stringIter s p)) : (getObj r).run P w = .ok (.stringIter s p) w := by simp [getObj, Sem.run, hb]
theorem run_setObj_siter {r : Nat} {s : ByteArray} {p : Nat} (o : Obj) (hb : w.heap[r]? = some (.stringIter s p)) : (setObj r o).run P w = .ok () (putO w r o) := by simp [setObj, Sem.run, hb, putO]

theorem y_nxtS {ty : TypeId} {x : Opd} {u : Value} (hx : VRel ρ (x.get vs ts) u) (hH : HRel ρ H w) (h : A.holds (evI A call (.nxtS x) vs ts H K)) :
    Yields P (Instr.next u true ty) ρ H w (fun x H => A.holds (K x H)) := by
  simp only [evI] at h
  generalize x.get vs ts = X at hx h
  cases hx <;> try exact (A.fail_no h).elim
  rename_i b S e r c
  cases r with
  | succ r => exact (A.fail_no h).elim
  | zero =>
  cases c with
  | succ c => exact (A.fail_no h).elim
  | zero =>
  simp only at h
  have hB := hH.blk _ _ e
  cases hb : H.get b with
  | dead => rw [hb] at h; exact (A.fail_no h).elim
  | rows z l => rw [hb] at h; exact (A.fail_no h).elim
  | ro l => rw [hb] at h; exact (A.fail_no h).elim
  | obj o =>
    rw [hb] at h hB
    cases o with
    | map l => exact (A.fail_no h).elim
    | miter _ _ _ _ => exact (A.fail_no h).elim
    | siter n c pos =>
      obtain ⟨h0, o, h1, s, rfl, h2, h3⟩ := hB
      have hz : S.off + 0 * S.esz + 0 = 0 := by rw [h0]; omega
      rw [hz]
      simp only at h
      cases hlt : Nat.blt pos n with
      | false =>
        rw [hlt] at h
        have hge : ¬ pos < s.size := by
          rw [h2]
          intro hh
          have : Nat.blt pos n = true := by unfold Nat.blt; exact Nat.ble_eq_true_of_le hh
          rw [this] at hlt; cases hlt
        refine Yields.here (v := .tuple #[.bool false]) hH h ?_ (.tup (.cons (.bool _) .nil))
        simp [Instr.next, run_getObj_siter h1, hge]
      | true =>
        rw [hlt] at h
        have hl : pos < s.size := by
          rw [h2]
          unfold Nat.blt at hlt
          exact Nat.le_of_ble_eq_true hlt
        simp only [fN_eq] at h
        obtain ⟨_, h⟩ := hPut_holds h
        have hd := decode_eq s pos
        rw [h2, h3] at hd
        refine ⟨_, _, ρ, .tuple #[.bool true, goInt pos, .int .i32 (Utf8.decode s pos).1], putO w S.blk (.stringIter s (pos + (Utf8.decode s pos).2)), h, ?_, ?_, ?_⟩
        · simp [Instr.next, run_getObj_siter h1, hl, run_setObj_siter _ h1]
        · rw [hd]
          exact .tup (.cons (.bool _) (.cons (.int _ _) (.cons (.int _ _) .nil)))
        · refine Step.putObj hH b S e _ hb _ _ ⟨s, ?_, h2, h3⟩
          rw [hd]

/-! Maps. -/
theorem y_mkmap {t : TypeId} (hH : HRel ρ H w) (h : A.holds (evI A call .mkmap vs ts H K)) :
    Yields P (Instr.makeMap t none) ρ H w (fun x H => A.holds (K x H)) := by
  simp only [evI] at h
  obtain ⟨_, h⟩ := hAdd_holds h
  exact ⟨_, _, ρ.add H.next ⟨w.heap.size, 0, 0, 0, 0⟩, .map (some w.heap.size), w.alloc (.map #[] 0), h, by simp [Instr.makeMap], .mp Env.add_same,
    Step.allocB hH _ _ _ rfl ⟨rfl, _, heap_push_new _ _, #[], rfl, trivial⟩⟩

/-- The kind of a map's keys. -/
def KindD : Nat → TypeDesc → Prop
  | 0, .int _ => True
  | 1, .string => True
  | 2, .bool => True
  | _, _ => False

theorem mapKey_kind {t : TypeId} {kk : Nat} (h : mapKey P t = some kk) : ∃ d, P.underlying t = some d ∧ KindD kk d := by
  unfold mapKey at h
  split at h <;> simp at h <;> subst h <;> (rename_i hq; exact ⟨_, hq, by simp [KindD]⟩)

theorem run_checkKey_kind {kk : Nat} {kt : TypeId} {d : TypeDesc} {k : Value} (hd : P.underlying kt = some d) (hk : KindD kk d) (e : Bool) (n : Nat) : (Instr.checkKey e (n + 1) kt k).run P w = .ok () w := by
  unfold Instr.checkKey
  simp only [Sem.run_bind, run_underlying hd, Result.andThen]
  cases d <;> (first | (simp [KindD] at hk; done) | (cases k <;> simp))

theorem sameNow_rel {kk : Nat} {d : TypeDesc} (hd : KindD kk d) {x y : AVal} {u v : Value} (hx : VRel ρ x u) (hy : VRel ρ y v) {b : Bool} (h : eqCell kk x y = some b) :
    Instr.sameNow d u v = some b ∧ (b = true → v = u ∧ Instr.sameBits 10000 u u = true) := by
  unfold eqCell at h
  split at h
  · rename_i k a k' b'
    cases d <;> simp [KindD] at hd
    cases hx; cases hy
    by_cases hk : k = k'
    · subst hk
      rw [decide_eq_true rfl] at h
      simp only [ieq_eq, Option.some.injEq] at h
      subst h
      exact ⟨by simp [Instr.sameNow], fun hh => ⟨by simp at hh; rw [hh], by simp [Instr.sameBits, MapKept.bytes_beq]⟩⟩
    · rw [decide_eq_false hk] at h; cases h
  · cases d <;> simp [KindD] at hd
    cases hx; cases hy
    rename_i s s'
    rw [str_beq] at h
    simp only [Option.some.injEq] at h
    have hb : (s == s') = b := by
      rw [← h, Bool.eq_iff_iff, MapKept.bytes_beq, ByteArray.toList_eq, ByteArray.toList_eq]
      constructor
      · intro e; subst e; simp
      · intro e
        have : s.data.toList = s'.data.toList := by simpa using e
        have h2 : s.data = s'.data := Array.toList_inj.1 this
        cases s; cases s'
        simp at h2
        rw [h2]
    refine ⟨by simp [Instr.sameNow, hb], fun hh => ?_⟩
    rw [hh] at hb
    have := (MapKept.bytes_beq _ _).1 hb
    subst this
    exact ⟨rfl, by simp [Instr.sameBits, MapKept.bytes_beq]⟩
  · cases d <;> simp [KindD] at hd
    cases hx; cases hy
    simp only [Option.some.injEq] at h
    subst h
    exact ⟨by simp [Instr.sameNow], fun hh => ⟨by simp at hh; rw [hh], by simp [Instr.sameBits, MapKept.bytes_beq]⟩⟩
  · cases h

theorem mfind_rel {kk : Nat} {d : TypeDesc} (hd : KindD kk d) {k : AVal} {u : Value} (hk : VRel ρ k u) : ∀ (l : List (AVal × AVal)) (es : List MapEntry) (n i : Nat) (r : Option (Nat × AVal)), MRel ρ l es n → mfind kk k l i = some r →
    match r with
    | none => Instr.findNow d u es i = some none
    | some (j, v) => ∃ m e, j = i + m ∧ Instr.findNow d u es i = some (some (j, e.val)) ∧ es[m]? = some e ∧ VRel ρ v e.val ∧ e.key = u ∧ Instr.sameBits 10000 u u = true
  | [], [], _, _, r, _, h => by simp [mfind] at h; subst h; rfl
  | [], _ :: _, _, _, _, hm, _ => hm.elim
  | _ :: _, [], _, _, _, hm, _ => hm.elim
  | x :: l, e :: es, n, i, r, hm, h => by
    obtain ⟨m1, m2, m3, m4⟩ := hm
    simp only [mfind] at h
    cases hc : eqCell kk k x.1 with
    | none => rw [hc] at h; cases h
    | some b =>
      rw [hc] at h
      obtain ⟨g1, g2⟩ := sameNow_rel hd hk m1 hc
      cases b with
      | true =>
        simp at h
        subst h
        obtain ⟨g3, g4⟩ := g2 rfl
        exact ⟨0, e, rfl, by simp [Instr.findNow, g1], rfl, m2, g3, g4⟩
      | false =>
        simp only at h
        have ih := mfind_rel hd hk l es (n + 1) (i + 1) r m4 h
        cases r with
        | none => simpa [Instr.findNow, g1] using ih
        | some q =>
          obtain ⟨j, v⟩ := q
          obtain ⟨m, e', q1, q2, q3, q4, q5, q6⟩ := ih
          exact ⟨m + 1, e', by omega, by simp [Instr.findNow, g1, q2], by simpa using q3, q4, q5, q6⟩

theorem MRel.set {x : AVal} {f : MapEntry → MapEntry} : ∀ {l : List (AVal × AVal)} {es : List MapEntry} {n m : Nat}, MRel ρ l es n → (∀ e, es[m]? = some e → (f e).key = e.key ∧ (f e).born = e.born ∧ VRel ρ x (f e).val) → MRel ρ (mset l m x) (es.modify m f) n
  | [], [], _, _, _, _ => by simp [mset, MRel]
  | [], _ :: _, _, _, h, _ => h.elim
  | _ :: _, [], _, _, h, _ => h.elim
  | y :: l, e :: es, n, 0, h, hf => by
    obtain ⟨m1, m2, m3, m4⟩ := h
    obtain ⟨f1, f2, f3⟩ := hf e rfl
    simp only [mset, List.modify_zero_cons]
    exact ⟨by rw [f1]; exact m1, f3, by rw [f2]; exact m3, m4⟩
  | y :: l, e :: es, n, m + 1, h, hf => by
    obtain ⟨m1, m2, m3, m4⟩ := h
    simp only [mset, List.modify_succ_cons]
    exact ⟨m1, m2, m3, MRel.set m4 fun e' he' => hf e' (by simpa using he')⟩
theorem MRel.push {k v : AVal} {key val : Value} (hk : VRel ρ k key) (hv : VRel ρ v val) : ∀ {l : List (AVal × AVal)} {es : List MapEntry} {n : Nat}, MRel ρ l es n → MRel ρ (madd l k v) (es ++ [⟨key, val, n + es.length⟩]) n
  | [], [], n, _ => ⟨hk, hv, by simp, trivial⟩
  | [], _ :: _, _, h => h.elim
  | _ :: _, [], _, h => h.elim
  | y :: l, e :: es, n, h => by
    obtain ⟨m1, m2, m3, m4⟩ := h
    refine ⟨m1, m2, m3, ?_⟩
    have := MRel.push hk hv m4
    simp only [List.length_cons]
    rwa [show n + (es.length + 1) = n + 1 + es.length from by omega]

theorem mapOf_rel {x : AVal} {u : Value} (hx : VRel ρ x u) (hH : HRel ρ H w) {l : List (AVal × AVal)} (h : mapOf H x = some l) :
    ∃ es : Array MapEntry, MRel ρ l es.toList 0 ∧ ((u = .map none ∧ es = #[]) ∨ ∃ r, u = .map (some r) ∧ w.heap[r]? = some (.map es es.size)) := by
  cases hx <;> try (simp [mapOf] at h; done)
  case nilm =>
    simp [mapOf] at h
    subst h
    exact ⟨#[], trivial, .inl ⟨rfl, rfl⟩⟩
  case mp b S e =>
    simp only [mapOf] at h
    have hB := hH.blk _ _ e
    cases hb : H.get b with
    | dead => rw [hb] at h; cases h
    | rows z l => rw [hb] at h; cases h
    | ro l => rw [hb] at h; cases h
    | obj o =>
      rw [hb] at h hB
      cases o with
      | siter _ _ _ => cases h
      | miter _ _ _ _ => cases h
      | map l' =>
        simp at h
        subst h
        obtain ⟨h0, o, h1, es, rfl, h2⟩ := hB
        exact ⟨es, h2, .inr ⟨_, rfl, h1⟩⟩

theorem zeroVal_run {t : TypeId} {z : AVal} (h : zeroVal P t = some z) : ∃ v, VRel ρ z v ∧ ∀ w, (zeroValue t).run P w = .ok v w := by
  unfold zeroVal at h
  cases hi : P.info? t with
  | none => rw [hi] at h; cases h
  | some i =>
    rw [hi] at h
    simp only at h
    cases hz : i.zero with
    | none => rw [hz] at h; cases h
    | some v =>
      rw [hz] at h
      exact ⟨v, cVal_rel h, fun w => run_zero hi hz w⟩

theorem y_lkp {t kt et : TypeId} {kk : Nat} {z : AVal} {ok : Bool} (ht : P.underlying t = some (.map kt et)) (hkk : mapKey P kt = some kk) (hz : zeroVal P et = some z) {x k : Opd} {u v : Value} (hx : VRel ρ (x.get vs ts) u) (hk : VRel ρ (k.get vs ts) v) (hH : HRel ρ H w)
    (h : A.holds (evI A call (.lkp z kk ok x k) vs ts H K)) :
    Yields P (Instr.lookup t u v ok) ρ H w (fun x H => A.holds (K x H)) := by
  simp only [evI] at h
  obtain ⟨d, hd, hkd⟩ := mapKey_kind hkk
  obtain ⟨z', hz1, hz2⟩ := zeroVal_run (ρ := ρ) hz
  cases hm : mapOf H (x.get vs ts) with
  | none => rw [hm] at h; exact (A.fail_no h).elim
  | some l =>
    rw [hm] at h
    obtain ⟨es, h1, h2⟩ := mapOf_rel hx hH hm
    simp only at h
    cases hf : mfind kk (k.get vs ts) l 0 with
    | none => rw [hf] at h; exact (A.fail_no h).elim
    | some r =>
      rw [hf] at h
      have hr := mfind_rel hkd hk _ _ _ _ _ h1 hf
      have run : ∀ (a : Option (Nat × Value)), Instr.findNow d v es.toList 0 = some a → (Instr.lookup t u v ok).run P w = .ok (if ok then .tuple #[(match a with | some (_, y) => y | none => z'), .bool a.isSome] else (match a with | some (_, y) => y | none => z')) w := by
        intro a ha
        rcases h2 with ⟨rfl, rfl⟩ | ⟨r, rfl, hr'⟩
        · cases a with
          | none => simp [Instr.lookup, run_underlying ht, run_checkKey_kind hd hkd, MapKept.run_findKey hd ha, hz2]
          | some q => simp [Instr.lookup, run_underlying ht, run_checkKey_kind hd hkd, MapKept.run_findKey hd ha]
        · cases a with
          | none => simp [Instr.lookup, run_underlying ht, MapKept.run_getObj_map hr', run_checkKey_kind hd hkd, MapKept.run_findKey hd ha, hz2]
          | some q => simp [Instr.lookup, run_underlying ht, MapKept.run_getObj_map hr', run_checkKey_kind hd hkd, MapKept.run_findKey hd ha]
      cases r with
      | none =>
        simp only at hr h
        cases ok
        · exact Yields.here hH h (run _ hr) hz1
        · exact Yields.here hH h (run _ hr) (.tup (.cons hz1 (.cons (.bool _) .nil)))
      | some q =>
        obtain ⟨j, y⟩ := q
        obtain ⟨m, e, q1, q2, q3, q4, q5, q6⟩ := hr
        simp only at h
        cases ok
        · exact Yields.here hH h (run _ q2) q4
        · exact Yields.here hH h (run _ q2) (.tup (.cons q4 (.cons (.bool _) .nil)))

theorem y_mupd {t kt et : TypeId} {kk : Nat} (ht : P.underlying t = some (.map kt et)) (hkk : mapKey P kt = some kk) {m k v : Opd} {u y z : Value} (hx : VRel ρ (m.get vs ts) u) (hk : VRel ρ (k.get vs ts) y) (hv : VRel ρ (v.get vs ts) z) (hH : HRel ρ H w)
    (h : A.holds (evI A call (.mupd kk m k v) vs ts H K)) :
    ∃ H' w', A.holds (K (.tup []) H') ∧ (Instr.mapUpdate t u y z).run P w = .ok () w' ∧ Step ρ H w ρ H' w' := by
  simp only [evI] at h
  obtain ⟨d, hd, hkd⟩ := mapKey_kind hkk
  generalize m.get vs ts = X at hx h
  cases hx <;> try exact (A.fail_no h).elim
  rename_i b S e
  simp only at h
  have hB := hH.blk _ _ e
  cases hb : H.get b with
  | dead => rw [hb] at h; exact (A.fail_no h).elim
  | rows z l => rw [hb] at h; exact (A.fail_no h).elim
  | ro l => rw [hb] at h; exact (A.fail_no h).elim
  | obj o =>
    rw [hb] at h hB
    cases o with
    | siter _ _ _ => exact (A.fail_no h).elim
    | miter _ _ _ _ => exact (A.fail_no h).elim
    | map l =>
      obtain ⟨h0, o, h1, es, rfl, h2⟩ := hB
      simp only at h
      cases hf : mfind kk (k.get vs ts) l 0 with
      | none => rw [hf] at h; exact (A.fail_no h).elim
      | some r =>
        rw [hf] at h
        have hr := mfind_rel hkd hk _ _ _ _ _ h2 hf
        cases r with
        | none =>
          simp only [fL_eq] at hr h
          obtain ⟨_, h⟩ := hPut_holds h
          refine ⟨_, putO w S.blk (.map (es.push ⟨y, z, es.size⟩) (es.size + 1)), h, ?_, Step.putObj hH b S e _ hb _ _ ⟨es.push ⟨y, z, es.size⟩, by simp, ?_⟩⟩
          · simp [Instr.mapUpdate, run_underlying ht, MapKept.run_getObj_map h1, run_checkKey_kind hd hkd, MapKept.run_findKey hd hr, MapKept.run_setObj_map _ h1, putO]
          · have := MRel.push hk hv h2
            simpa using this
        | some q =>
          obtain ⟨j, q'⟩ := q
          obtain ⟨n, en, q1, q2, q3, q4, q5, q6⟩ := hr
          simp only [fL_eq] at h
          obtain ⟨_, h⟩ := hPut_holds h
          have hj : j = n := by omega
          subst hj
          have hes : es[j]? = some en := by simpa using q3
          refine ⟨_, putO w S.blk (.map (es.modify j fun e => { e with key := y, val := z }) es.size), h, ?_, Step.putObj hH b S e _ hb _ _ ⟨es.modify j fun e => { e with key := y, val := z }, by simp, ?_⟩⟩
          · simp [Instr.mapUpdate, run_underlying ht, MapKept.run_getObj_map h1, run_checkKey_kind hd hkd, MapKept.run_findKey hd q2, hes, q5, Instr.keyThatStays, q6, MapKept.run_setObj_map _ h1, putO]
          · have := MRel.set (m := j) (x := v.get vs ts) (f := fun e => { e with key := y, val := z }) h2 fun e' he' => by
              rw [q3] at he'
              cases he'
              exact ⟨q5.symm, rfl, hv⟩
            simpa using this

end more
end Dt

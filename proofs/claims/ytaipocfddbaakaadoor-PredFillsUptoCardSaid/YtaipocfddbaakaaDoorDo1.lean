/-
  THE DOOR: arguments that a statement reads as data are data of the abstract machine; the functions here are those of the program.
-/
import Derived.OpenShut
import Derived.Deep.DeepHandedRow
import Derived.Lib.LaidTab
import Derived.Carry
import Derived.ChangeCalls
import Derived.KernelRfl
import Derived.Test.YtaipocfddbaakaaDoorProg
import Derived.Shelf.Sort.Plain
import Derived.Shelf.Slices.CompactS
import Derived.Shelf.Slices.Cells
import Derived.Shelf.Slices.In.SortNone
import Derived.Shelf.Slices.Empties2
import Derived.Test.YtaipocfddbaakaaDoorCards
import Derived.Test.YtaipocfddbaakaaDoorTie
import Derived.WalkKit
import Derived.ProofKit
import Derived.Test.YtaipocfddbaakaaDoorCon3
section
set_option linter.unusedSimpArgs false
set_option linter.unusedVariables false
set_option linter.unusedSectionVars false
namespace Go.Abs
open Go.RowKit
variable {H : Type} {enc : TypeId × Value → H} {P : Program} {w : World}
/-! ## the door: what the statement reads, as data -/
def liveS (w : World) : Safe := fun b o => ∃ v, w.cell? ⟨b, o, none⟩ = some v
/-- how much a reading holds -/
structure BulkOk (bulk : DataW H → Nat) (all : List (DataW H) → Nat) : Prop where
  one : ∀ d, 1 ≤ bulk d
  str : ∀ s, s.length + 1 ≤ bulk (.lit (.string s))
  slice : ∀ a b, all a + 1 ≤ bulk (.slice a b)
  agg : ∀ a, all a + 1 ≤ bulk (.agg a)
  cons : ∀ d r, bulk d + all r ≤ all (d :: r)
variable {bulk : DataW H → Nat} {all : List (DataW H) → Nat}
/-- Whatever is read at type t (with fuel n), is the data f x of some x, whose size is not more than what the reading holds. -/
def ReadsAt (enc : TypeId × Value → H) (P : Program) (w : World) (bulk : DataW H → Nat) (n : Nat) (t : TypeId) {α : Type} (f : α → List D) (sz : α → Nat) : Prop :=
  ∀ cs d ps, DataW.trod enc P w 0 (fun _ => true) true n t cs = some (d, ps) → ∃ x : α, RepL w (liveS w) (f x) cs ∧ sz x ≤ bulk d
theorem reads_map {n : Nat} {t : TypeId} {α β : Type} {f : α → List D} {sz : α → Nat} {g : β → List D} {sz' : β → Nat} (h : ReadsAt enc P w bulk n t f sz) (φ : α → β) (hf : ∀ x, g (φ x) = f x) (hs : ∀ x, sz' (φ x) ≤ sz x) : ReadsAt enc P w bulk n t g sz' := fun cs d ps hr => by
  obtain ⟨x, h1, h2⟩ := h cs d ps hr
  exact ⟨φ x, by rw [hf]; exact h1, Nat.le_trans (hs x) h2⟩
theorem reads_int (hb : BulkOk bulk all) {k : IntKind} {n : Nat} {t : TypeId} (ht : P.underlying t = some (.int k)) : ReadsAt enc P w bulk n t (fun x : Int => [.int k x]) (fun _ => 1) := by
  intro cs d ps h
  cases n with
  | zero => cases h
  | succ n =>
    unfold DataW.trod at h
    rw [ht] at h
    split at h <;> (try (cases h; done)) <;> rename_i h1 <;> cases h1
    rename_i k' m
    split at h
    · rename_i hk
      obtain ⟨rfl, _⟩ := hk
      exact ⟨m, ⟨_, _, rfl, rfl, rfl⟩, hb.one _⟩
    · cases h
theorem reads_str (hb : BulkOk bulk all) {n : Nat} {t : TypeId} (ht : P.underlying t = some .string) : ReadsAt enc P w bulk n t (fun x : List UInt8 => [.str x]) (fun x => x.length + 1) := by
  intro cs d ps h
  cases n with
  | zero => cases h
  | succ n =>
    unfold DataW.trod at h
    rw [ht] at h
    split at h <;> (try (cases h; done)) <;> rename_i h1 <;> cases h1
    rename_i s
    split at h
    · rename_i hk
      cases h
      exact ⟨s.data.toList, ⟨_, _, rfl, ⟨s, rfl, rfl, by simpa [maxLen] using hk⟩, rfl⟩, hb.str _⟩
    · cases h
theorem mapM_reads {α : Type} {f : α → List D} {sz : α → Nat} (hb : BulkOk bulk all) {n : Nat} {e : TypeId} (he : ReadsAt enc P w bulk n e f sz) (g : Nat → Option (List Value)) :
    ∀ (is : List Nat) {xs : List (DataW H × List MemPlace)}, (is.mapM fun i => (g i).bind (DataW.trod enc P w 0 (fun _ => true) true n e)) = some xs →
      ∃ l : List α, l.length = is.length ∧ (∀ k (h : k < is.length), ∃ cs, g is[k] = some cs ∧ ∃ (h' : k < l.length), RepL w (liveS w) (f l[k]) cs) ∧ (l.map sz).sum ≤ all (xs.map (·.1))
  | [], xs, h => by simp at h; subst h; exact ⟨[], rfl, by simp, by simp⟩
  | i :: is, xs, h => by
    simp only [List.mapM_cons, Option.bind_eq_bind, Option.bind_eq_some_iff, Option.pure_def, Option.some.injEq] at h
    obtain ⟨⟨d, ps⟩, ⟨cs, hg, ht⟩, xs', hxs, rfl⟩ := h
    obtain ⟨x, hx, hsz⟩ := he cs d ps ht
    obtain ⟨l, hl, hl2, hl3⟩ := mapM_reads hb he g is hxs
    refine ⟨x :: l, by simp [hl], ?_, ?_⟩
    · intro k hk
      cases k with
      | zero => exact ⟨cs, hg, by simp, hx⟩
      | succ k =>
        obtain ⟨cs', h1, h2, h3⟩ := hl2 k (by simpa using hk)
        exact ⟨cs', h1, by simpa using h2, h3⟩
    · simp only [List.map_cons, List.sum_cons]
      exact Nat.le_trans (Nat.add_le_add hsz hl3) (hb.cons _ _)
theorem cells_get {w : World} {a : Addr} {n : Nat} {cs : List Value} (h : w.cells? 0 a n = some cs) : cs.length = n ∧ ∀ j, j < n → ∃ v, cs[j]? = some v ∧ w.cell? (a.add j) = some v := by
  unfold World.cells? at h
  rw [if_pos (Nat.zero_le _)] at h
  have key : ∀ (is : List Nat) (cs : List Value), (is.mapM fun i => w.cell? (a.add i)) = some cs → cs.length = is.length ∧ ∀ k (hk : k < is.length), ∃ v, cs[k]? = some v ∧ w.cell? (a.add is[k]) = some v := by
    intro is
    induction is with
    | nil => intro cs h; simp at h; subst h; simp
    | cons i is ih =>
      intro cs h
      simp only [List.mapM_cons, Option.bind_eq_bind, Option.bind_eq_some_iff, Option.pure_def, Option.some.injEq] at h
      obtain ⟨v, hv, cs', hcs, rfl⟩ := h
      obtain ⟨h1, h2⟩ := ih cs' hcs
      refine ⟨by simp [h1], fun k hk => ?_⟩
      cases k with
      | zero => exact ⟨v, rfl, hv⟩
      | succ k => simpa using h2 k (by simpa using hk)
  obtain ⟨h1, h2⟩ := key _ _ h
  refine ⟨by simpa using h1, fun j hj => ?_⟩
  obtain ⟨v, e1, e2⟩ := h2 j (by simpa using hj)
  exact ⟨v, e1, by simpa using e2⟩
theorem spot_of_cell {w : World} {a : Addr} {v : Value} (h : w.cell? a = some v) : a.spot = none := by
  unfold World.cell? at h
  split at h
  · split at h
    · cases h
    · rename_i hs; cases hh : a.spot with
      | none => rfl
      | some x => rw [hh] at hs; simp at hs
  · cases h
theorem addr_add2 {a : Addr} (h : a.spot = none) (n : Nat) : a.add n = ⟨a.block, a.off + n, none⟩ := by
  obtain ⟨b, o, sp⟩ := a
  simp only at h
  subst h
  exact addr_add b o n
theorem reads_slice (hb : BulkOk bulk all) {α : Type} {f : α → List D} {sz : α → Nat} {n : Nat} {t e : TypeId} (ht : P.underlying t = some (.slice e)) (hk : P.cellsOf e ≠ 0) (hf : ∀ x, (f x).length = P.cellsOf e) (he : ReadsAt enc P w bulk n e f sz) :
    ReadsAt enc P w bulk (n + 1) t (fun l : List α => [.lst (l.map f)]) (fun l => (l.map sz).sum + 1) := by
  intro cs d ps h
  unfold DataW.trod at h
  rw [ht] at h
  split at h <;> (try (cases h; done)) <;> rename_i h1 <;> cases h1
  · cases h
    exact ⟨[], ⟨_, _, rfl, ⟨none, 0, rfl, Nat.le_refl _, by omega, fun _ => rfl, fun a ha => by cases ha⟩, rfl⟩, hb.one _⟩
  · rename_i a len cap
    simp only at h
    split at h
    · rename_i hc
      obtain ⟨_, hlc, hcm⟩ := hc
      simp only [Option.bind_eq_some_iff, Option.map_eq_some_iff] at h
      obtain ⟨xs, hxs, rest, hrest, h⟩ := h
      cases h
      simp only [if_true] at hrest
      obtain ⟨l, hl, hl2, hl3⟩ := mapM_reads hb he (fun i => w.cells? 0 (a.add (i * P.cellsOf e)) (P.cellsOf e)) (List.range len) hxs
      have hll : l.length = len := by simpa using hl
      have hspot : cap ≠ 0 → a.spot = none := by
        intro hc0
        by_cases hl0 : len = 0
        · subst hl0
          have hlt : 0 < cap - 0 := by omega
          obtain ⟨l', hl', hl2', _⟩ := mapM_reads hb he (fun j => w.cells? 0 (a.add ((0 + j) * P.cellsOf e)) (P.cellsOf e)) (List.range (cap - 0)) hrest
          obtain ⟨cs, hcs, _⟩ := hl2' 0 (by simpa using hlt)
          obtain ⟨_, hg⟩ := cells_get hcs
          obtain ⟨v, _, hv⟩ := hg 0 (by omega)
          have := spot_of_cell hv
          simpa [Addr.add] using this
        · obtain ⟨cs, hcs, _⟩ := hl2 0 (by simp; omega)
          obtain ⟨_, hg⟩ := cells_get hcs
          obtain ⟨v, _, hv⟩ := hg 0 (by omega)
          have := spot_of_cell hv
          simpa [Addr.add] using this
      refine ⟨l, ⟨_, _, rfl, ⟨some a, cap, by rw [List.length_map, hll], by rw [List.length_map, hll]; exact hlc, by simpa [maxLen] using hcm, (fun h => by cases h), ?_⟩, rfl⟩, Nat.le_trans (Nat.succ_le_succ hl3) (hb.slice _ _)⟩
      intro a' ha'
      cases ha'
      refine ⟨hspot, ⟨P.cellsOf e, fun x hx => by obtain ⟨y, _, rfl⟩ := List.mem_map.1 hx; exact hf y⟩, ?_⟩
      -- the elements, one behind the other
      have key : ∀ (r : List α) (i : Nat), (∀ k (hk : k < r.length), ∃ (h' : i + k < l.length), l[i + k] = r[k]) → RepEs w (liveS w) a.block (a.off + i * P.cellsOf e) (r.map f) := by
        intro r
        induction r with
        | nil => intro i _; trivial
        | cons x r ih =>
          intro i hi
          obtain ⟨h', e0⟩ := hi 0 (by simp)
          simp only [Nat.add_zero, List.getElem_cons_zero] at h' e0
          obtain ⟨cs, hcs, h2, hrep⟩ := hl2 i (by simpa [hll] using h')
          simp only [List.getElem_range] at hcs
          obtain ⟨hcl, hg⟩ := cells_get hcs
          have hsp := hspot (by omega)
          refine ⟨?_, ?_⟩
          · rw [← e0]
            refine RepCs.of_values hrep fun j v hj => ?_
            have hj' : j < P.cellsOf e := by rw [← hcl]; exact (List.getElem?_eq_some_iff.1 hj).1
            obtain ⟨v', e1, e2⟩ := hg j hj'
            rw [hj] at e1
            cases e1
            rw [addr_add2 hsp, addr_add] at e2
            exact ⟨e2, v, e2⟩
          · have := ih (i + 1) (fun k hk => by
              obtain ⟨g1, g2⟩ := hi (k + 1) (by simpa using hk)
              refine ⟨by omega, ?_⟩
              have e3 : i + 1 + k = i + (k + 1) := by omega
              simp only [e3]
              simpa using g2)
            rw [hf x, show a.off + i * P.cellsOf e + P.cellsOf e = a.off + (i + 1) * P.cellsOf e by rw [Nat.add_mul]; omega]
            exact this
      have := key l 0 (fun k hk => ⟨by omega, by simp⟩)
      simpa using this
    · cases h
/-- consecutive fields -/
def ReadsF (enc : TypeId × Value → H) (P : Program) (w : World) (bulk : DataW H → Nat) (all : List (DataW H) → Nat) (n : Nat) (fs : List Field) (off : Nat) {α : Type} (f : α → List D) (sz : α → Nat) : Prop :=
  ∀ (cs : List Value) (xs : List (DataW H × List MemPlace)), (fs.mapM fun fd => DataW.trod enc P w 0 (fun _ => true) true n fd.type ((cs.drop fd.offset).take (P.cellsOf fd.type))) = some xs →
    ∃ x : α, RepL w (liveS w) (f x) ((cs.drop off).take (f x).length) ∧ sz x ≤ all (xs.map (·.1))
theorem reads_nil {n off : Nat} : ReadsF enc P w bulk all n [] off (fun _ : Unit => []) (fun _ => 0) := by
  intro cs xs h
  exact ⟨(), by simp [RepL], Nat.zero_le _⟩
theorem RepL.take_app {S : Safe} : ∀ {a b : List D} {l : List Value} , RepL w S a (l.take a.length) → RepL w S b ((l.drop a.length).take b.length) → RepL w S (a ++ b) (l.take (a ++ b).length)
  | [], b, l, _, h2 => by simpa using h2
  | x :: a, b, l, ⟨v, r, h, h1, h1'⟩, h2 => by
    cases l with
    | nil => simp at h
    | cons y l =>
      simp only [List.length_cons, List.take_succ_cons, List.cons.injEq] at h
      obtain ⟨rfl, rfl⟩ := h
      simp only [List.cons_append, List.length_cons, List.take_succ_cons]
      exact ⟨_, _, rfl, h1, RepL.take_app h1' (by simpa using h2)⟩
theorem reads_cons (hb : BulkOk bulk all) {n off k : Nat} {fd : Field} {fs : List Field} {α β : Type} {f : α → List D} {sz : α → Nat} {g : β → List D} {sz' : β → Nat} (ho : fd.offset = off) (hk : P.cellsOf fd.type = k) (hf : ∀ x, (f x).length = k)
    (h1 : ReadsAt enc P w bulk n fd.type f sz) (h2 : ReadsF enc P w bulk all n fs (off + k) g sz') : ReadsF enc P w bulk all n (fd :: fs) off (fun x : α × β => f x.1 ++ g x.2) (fun x => sz x.1 + sz' x.2) := by
  intro cs xs h
  simp only [List.mapM_cons, Option.bind_eq_bind, Option.bind_eq_some_iff, Option.pure_def, Option.some.injEq] at h
  obtain ⟨⟨d, ps⟩, hd, xs', hxs, rfl⟩ := h
  obtain ⟨x, hx, hxs1⟩ := h1 _ d ps hd
  obtain ⟨y, hy, hys⟩ := h2 cs xs' hxs
  refine ⟨(x, y), ?_, Nat.le_trans (Nat.add_le_add hxs1 hys) (by simpa using hb.cons _ _)⟩
  refine RepL.take_app ?_ ?_
  · rw [hf x, ← hk, ← ho]; exact hx
  · rw [hf x, List.drop_drop]
    exact hy
theorem reads_struct (hb : BulkOk bulk all) {n : Nat} {t : TypeId} {fs : Array Field} {α : Type} {f : α → List D} {sz : α → Nat} (ht : P.underlying t = some (.struct fs)) (hk : ∀ x, (f x).length = P.cellsOf t) (h : ReadsF enc P w bulk all n fs.toList 0 f sz) :
    ReadsAt enc P w bulk (n + 1) t f (fun x => sz x + 1) := by
  intro cs d ps hr
  unfold DataW.trod at hr
  simp only [ht] at hr
  split at hr
  · rename_i hlen
    simp only [Option.map_eq_some_iff] at hr
    obtain ⟨xs, hxs, hr⟩ := hr
    cases hr
    obtain ⟨x, hx, hs⟩ := h cs xs hxs
    refine ⟨x, ?_, Nat.le_trans (Nat.succ_le_succ hs) (hb.agg _)⟩
    rw [List.drop_zero, hk x, ← hlen, List.take_length] at hx
    exact hx
  · cases hr
end Go.Abs
end
section
set_option linter.unusedSimpArgs false
set_option linter.unusedVariables false
set_option linter.unusedSectionVars false
namespace Go.Abs
open Go.RowKit Go.ChangeShapes
variable {H : Type} {enc : TypeId × Value → H} {P : Program} {w : World}
/-- a law's end: true came back, the arguments read as they did -/
theorem post_same {f : Func} {s : ChangeSpec} {apart fresh handsOn again : Bool} {W W' : World} {args : Array Value} {ds gs : List (DataW H)} {before : List MemPlace} {tb : TypeId}
    (hW : DataW.Whole enc P f.params.toList s.vars apart W args.toList ds gs before) (hvars : s.vars = []) (hfn : ∀ l, l.length = f.params.size → (s.fn H l).results = [.lit (.bool true)] ∧ (s.fn H l).args = l ∧ (s.fn H l).vars = []) (hb : Below W.heap.size W W')
    (hl : laidOutB P = true) (hp : ∀ t ∈ f.params.toList, P.readableRec t = true ∧ t < P.types.size) (htb : P.underlying tb = some .bool) (hr : f.resultTypes = #[tb]) : s.post enc P f apart fresh handsOn again W args (.bool true) W' := by
  obtain ⟨p, q, hA, hV, hpq, hz, hn⟩ := id hW
  rw [hvars] at hV
  obtain ⟨rfl, rfl⟩ := trodVars_none hV
  have hlen : ds.length = f.params.size := by have := (trodAll_length hA).2; simpa using this
  obtain ⟨e1, e2, e3⟩ := hfn ds hlen
  have hlt : ∀ x ∈ before, x.block < W.heap.size := hW.lt
  rw [List.append_nil] at hpq
  subst hpq
  have hres : ∀ (b : Nat) (sp : Nat → Bool) (hd : Bool), DataW.TrodAll enc P W' b sp hd f.resultTypes.toList ((Value.bool true).resultList f.resultTypes.size) (s.fn H (ds ++ [])).results [] := by
    intro b sp hd
    rw [List.append_nil, e1, hr]
    exact trodAll_cons_mk (p := []) (p' := []) (shut_bool htb true) trodAll_mk0
  have hargs : ∀ sp : Nat → Bool, (∀ x ∈ before, sp x.block = true) → DataW.TrodAll enc P W' 0 sp true f.params.toList args.toList (s.fn H (ds ++ [])).args before := by
    intro sp hsp
    rw [List.append_nil, e2]
    have key : ∀ (ts : List TypeId) (vs : List Value) (ds : List (DataW H)) (ps : List MemPlace), (∀ t ∈ ts, P.readableRec t = true ∧ t < P.types.size) → (∀ x ∈ ps, x ∈ before) → DataW.TrodAll enc P W 0 (fun _ => true) true ts vs ds ps → DataW.TrodAll enc P W' 0 sp true ts vs ds ps := by
      intro ts
      induction ts with
      | nil => intro vs ds ps _ _ h; obtain ⟨rfl, rfl, rfl⟩ := trodAll_nil h; exact trodAll_mk0
      | cons t ts ih =>
        intro vs ds ps ht hin h
        obtain ⟨v, vs', d, ds', p1, p2, rfl, rfl, rfl, h1, h2⟩ := trodAll_cons h
        exact trodAll_cons_mk (WideElems.Trod_stays hl (ht t (by simp)).1 (ht t (by simp)).2 h1 (fun x hx => hb.same (hlt x (hin x (List.mem_append_left _ hx)))) (fun x hx => hsp x (hin x (List.mem_append_left _ hx))))
          (ih vs' ds' p2 (fun t' ht' => ht t' (by simp [ht'])) (fun x hx => hin x (List.mem_append_right _ hx)) h2)
    exact key _ _ _ _ hp (fun x hx => hx) hA
  have hold : ∀ x ∈ before, (fun b => decide (b < W.heap.size)) x.block = true := fun x hx => by simpa using hlt x hx
  have hv0 : ∀ sp : Nat → Bool, DataW.TrodVars enc P W' sp s.vars (s.fn H (ds ++ [])).vars [] := by
    intro sp; rw [hvars, List.append_nil, e3]; rfl
  refine ⟨ds, [], before, [], before, [], hW, hres _ _ _, hargs _ hold, hv0 _, World.keptBut_mono (fun x hx => ⟨hx, ?_⟩) (hb.frame (· ∈ before)), fun _ => ?_⟩
  · simpa using hx
  · refine ⟨ok_one hr rfl (okWide_bool_mk htb true), _, _, ([] ++ before) ++ [], ⟨[] ++ before, [], trodAll_append (hargs _ (fun _ _ => rfl)) (hres _ _ _), hv0 _, rfl, ?_, ?_⟩, ?_⟩
    · intro b off hx
      have hx' : MemPlace.cell b off ∈ before := by simpa using hx
      have : W'.frozen? ⟨b, off, none⟩ = W.frozen? ⟨b, off, none⟩ := hb.frozen (p := ⟨b, off, none⟩) (hlt _ hx')
      rw [this]
      exact hz b off hx'
    · intro ha
      simpa using hn ha
    · intro x hx _
      simpa using hx

/-- an array of texts, as the row lists it -/
def strsData {H : Type} (ss : List (List UInt8)) : DataW H := .agg (ss.map fun s => .lit (.string s))
theorem strs_of_laid {base : Nat} {sp : Nat → Bool} {held : Bool} {fuel : Nat} {t e : TypeId} {n : Nat} {cs : List Value} {ss : List (List UInt8)} {p : List MemPlace} {S : Safe}
    (ht : P.underlying t = some (.array n e)) (he : P.underlying e = some .string) (hce : P.cellsOf e = 1) (hct : P.cellsOf t = n)
    (h : DataW.trod enc P w base sp held fuel t cs = some (strsData ss, p)) : RepL w S (ss.map D.str) cs := by
  cases fuel with
  | zero => simp [DataW.trod] at h
  | succ fuel =>
    simp only [DataW.trod, ht, hce, hct, Nat.mul_one] at h
    split at h
    · rename_i hl
      obtain ⟨xs, hm, hx⟩ := Option.map_eq_some_iff.1 h
      have hxs : xs.map (·.1) = ss.map fun s => (DataW.lit (.string s) : DataW H) := by
        have := congrArg Prod.fst hx
        simpa [strsData] using this
      have hxl : xs.length = n := by simpa using Lib.mapM_length hm
      have hsl : ss.length = n := by
        have := congrArg List.length hxs
        simp at this; omega
      have hcl : cs.length = n := hl
      have key : ∀ i (hi : i < n), ∃ (x : ByteArray), cs[i]? = some (.string x) ∧ x.data.toList = ss.getD i [] ∧ x.size ≤ 9223372036854775807 := by
        intro i hi
        obtain ⟨b, hb, hf⟩ := Lib.mapM_at hm i i (by simp [hi])
        have hc : (cs.drop i).take 1 = [cs[i]'(by omega)] := by
          rw [List.drop_eq_getElem_cons (by omega)]; rfl
        rw [hc] at hf
        have hbi : b.1 = DataW.lit (.string (ss.getD i [])) := by
          have h2 : (xs.map (·.1))[i]? = some b.1 := by simp [hb]
          rw [hxs] at h2
          rw [List.getElem?_map, List.getElem?_eq_getElem (by omega)] at h2
          simp only [Option.map_some, Option.some.injEq] at h2
          rw [← h2]
          simp [List.getD, List.getElem?_eq_getElem (show i < ss.length by omega)]
        cases fuel with
        | zero => simp [DataW.trod] at hf
        | succ fuel =>
          simp only [DataW.trod, he] at hf
          generalize hci : cs[i]'(by omega) = ci at hf
          cases ci <;> simp only [reduceCtorEq] at hf
          rename_i x
          split at hf
          · rename_i hmax
            cases hf
            simp only [DataW.lit.injEq, Lit.string.injEq] at hbi
            exact ⟨x, by rw [List.getElem?_eq_getElem (by omega), hci], hbi, by simpa [maxLen] using hmax⟩
          · cases hf
      clear h hm hx hxs hxl
      have fin : ∀ (ss : List (List UInt8)) (cs : List Value), ss.length = cs.length → (∀ i, i < ss.length → ∃ (x : ByteArray), cs[i]? = some (.string x) ∧ x.data.toList = ss.getD i [] ∧ x.size ≤ 9223372036854775807) → RepL w S (ss.map D.str) cs := by
        intro ss
        induction ss with
        | nil => intro cs h _; cases cs with | nil => rfl | cons _ _ => simp at h
        | cons s ss ih =>
          intro cs hl hk
          cases cs with
          | nil => simp at hl
          | cons c cs =>
            obtain ⟨x, h1, h2, h3⟩ := hk 0 (by simp)
            simp only [List.getElem?_cons_zero, Option.some.injEq] at h1
            subst h1
            exact ⟨_, _, rfl, ⟨x, rfl, by simpa using h2, h3⟩, ih cs (by simpa using hl) fun i hi => by simpa using hk (i + 1) (by simpa using hi)⟩
      exact fin ss cs (by omega) (fun i hi => key i (by omega))
    · cases h
/-- the listed variable of texts, at the head of the list -/
theorem glob_of_laid {name : String} {ss : List (List UInt8)} {rest : List (String × DataW Unit)} {g : Nat} {t e : TypeId} {n : Nat}
    (hg : P.globalNamed name = some g) (hty : (P.globals[g]?).map (·.type) = some t) (ht : P.underlying t = some (.array n e)) (he : P.underlying e = some .string) (hce : P.cellsOf e = 1) (hct : P.cellsOf t = n)
    (h : laidMet P ((name, strsData ss) :: rest) w) : RepCs w (liveS w) g 0 (ss.map D.str) := by
  obtain ⟨ps, ⟨g', t', cs, fuel, p, q, hg', ht', hvar, hd, _, _⟩, _⟩ := h
  obtain rfl := Option.some.inj (hg.symm.trans hg')
  obtain rfl := Option.some.inj (hty.symm.trans ht')
  have hr : RepL w (liveS w) (ss.map D.str) cs.toList := strs_of_laid ht he hce hct hd
  have hcell := World.var?_cell hg hvar
  refine RepCs.of_values hr fun j v hj => ?_
  have hj' : cs[j]? = some v := by simpa using hj
  have := hcell j
  rw [hj'] at this
  rw [Nat.zero_add]
  exact ⟨this, v, this⟩
theorem var_block {name : String} {g : Nat} {cs : Array Value} (hg : P.globalNamed name = some g) (h : w.var? P name = some cs) : ∃ (e : TypeId) (fr : Nat × Nat), w.heap[g]? = some (.cells cs e fr) := by
  simp only [World.var?, hg, Option.bind_some] at h
  split at h
  · rename_i vs e fr hb; cases h; exact ⟨e, fr, hb⟩
  · cases h
theorem strs_glob {name : String} {ss : List (List UInt8)} {rest : List (String × DataW Unit)} {g : Nat} {t e : TypeId} {n : Nat}
    (hg : P.globalNamed name = some g) (hty : (P.globals[g]?).map (·.type) = some t) (ht : P.underlying t = some (.array n e)) (he : P.underlying e = some .string) (hce : P.cellsOf e = 1) (hct : P.cellsOf t = n)
    (h : laidMet P ((name, strsData ss) :: rest) w) : RepCs w (liveS w) g 0 (ss.map D.str) ∧ ∃ (vs : Array Value) (e : TypeId) (fr : Nat × Nat), w.heap[g]? = some (.cells vs e fr) ∧ vs.size = (ss.map D.str).length := by
  refine ⟨glob_of_laid hg hty ht he hce hct h, ?_⟩
  obtain ⟨ps, ⟨g', t', cs, fuel, p, q, hg', ht', hvar, hd, _, _⟩, _⟩ := h
  obtain rfl := Option.some.inj (hg.symm.trans hg')
  obtain rfl := Option.some.inj (hty.symm.trans ht')
  have hr : RepL w (liveS w) (ss.map D.str) cs.toList := strs_of_laid ht he hce hct hd
  obtain ⟨e', fr, hb⟩ := var_block hg hvar
  exact ⟨cs, e', fr, hb, by have := RepL.length hr; simpa using this⟩
theorem globals_le (h : w.ShapedOpen P) : P.globals.size ≤ w.heap.size := by
  obtain ⟨_, h2⟩ := h
  obtain ⟨o, _, ho, _⟩ := h2 P.globals.size (Nat.le_refl _) (by simp [begin]; omega)
  exact Nat.le_of_lt (Array.getElem?_eq_some_iff.1 ho).1
/-- a value of one cell -/
theorem arg_one {r : Reach} {b : Nat} {t : TypeId} {d : TypeDesc} {v : Value} (ht : P.underlying t = some d) (hd : d = .bool ∨ d = .string ∨ (∃ k, d = .int k) ∨ ∃ e, d = .slice e) (hval : Value.okWide P w r b t v) : v.cells.toList = [v] := by
  unfold Value.okWide at hval
  rw [ht] at hval
  rcases hd with rfl | rfl | ⟨k, rfl⟩ | ⟨e, rfl⟩ <;>
    (simp only [Cell.okWide, ht, Cell.ok] at hval
     cases v <;> simp_all [Value.cells])
theorem arg_agg {r : Reach} {b : Nat} {t : TypeId} {fs : Array Field} {v : Value} (ht : P.underlying t = some (.struct fs)) (hval : Value.okWide P w r b t v) : ∃ cs, v = .agg cs ∧ v.cells = cs := by
  unfold Value.okWide at hval
  rw [ht] at hval
  obtain ⟨cs, rfl, _⟩ := hval
  exact ⟨cs, rfl, rfl⟩
end Go.Abs
end
section
set_option linter.unusedSimpArgs false
set_option linter.unusedVariables false
set_option linter.unusedSectionVars false
namespace Go.Abs
open Go.RowKit Go.ChangeShapes
variable {H : Type} {enc : TypeId × Value → H} {P : Program} {w : World} {bulk : DataW H → Nat} {all : List (DataW H) → Nat}
theorem reads_zero {t : TypeId} {α : Type} {f : α → List D} {sz : α → Nat} : ReadsAt enc P w bulk 0 t f sz := fun cs d ps h => by cases h
theorem reads_slice' (hb : BulkOk bulk all) {α : Type} {f : α → List D} {sz : α → Nat} {t e : TypeId} (ht : P.underlying t = some (.slice e)) (hk : P.cellsOf e ≠ 0) (hf : ∀ x, (f x).length = P.cellsOf e) (he : ∀ n, ReadsAt enc P w bulk n e f sz) :
    ∀ n, ReadsAt enc P w bulk n t (fun l : List α => [.lst (l.map f)]) (fun l => (l.map sz).sum + 1)
  | 0 => reads_zero
  | n + 1 => reads_slice hb ht hk hf (he n)
/-- a struct of an operator, a name, a number and a list of its own kind -/
theorem reads_pred (hb : BulkOk bulk all) {t s to tn ti : TypeId} {n0 n1 n2 n3 g0 g1 g2 g3 p0 p1 p2 p3 : String} {b0 b1 b2 b3 : Nat} {e0 e1 e2 e3 : Bool}
    (ht : P.underlying t = some (.struct #[⟨n0, to, 0, e0, g0, p0, b0⟩, ⟨n1, tn, 1, e1, g1, p1, b1⟩, ⟨n2, ti, 2, e2, g2, p2, b2⟩, ⟨n3, s, 3, e3, g3, p3, b3⟩]))
    (ho : P.underlying to = some (.int .i64)) (hn : P.underlying tn = some .string) (hi : P.underlying ti = some (.int .i64)) (hs : P.underlying s = some (.slice t))
    (ct : P.cellsOf t = 4) (co : P.cellsOf to = 1) (cn : P.cellsOf tn = 1) (ci : P.cellsOf ti = 1) (cs : P.cellsOf s = 1) : ∀ n, ReadsAt enc P w bulk n t Pred.cells Pred.sz := by
  intro n
  induction n using Nat.strongRecOn with | _ n ih =>
  cases n with
  | zero => exact reads_zero
  | succ n =>
    have hk : ReadsAt enc P w bulk n s (fun l : List Pred => [.lst (l.map Pred.cells)]) (fun l => (l.map Pred.sz).sum + 1) := by
      cases n with
      | zero => exact reads_zero
      | succ m => exact reads_slice hb hs (by rw [ct]; decide) (fun x => by rw [ct]; exact Pred.cells_length x) (ih m (by omega))
    have hF := reads_cons hb (n := n) (fd := ⟨n0, to, 0, e0, g0, p0, b0⟩) (off := 0) rfl co (fun _ => rfl) (reads_int hb ho) (reads_cons hb (fd := ⟨n1, tn, 1, e1, g1, p1, b1⟩) rfl cn (fun _ => rfl) (reads_str hb hn) (reads_cons hb (fd := ⟨n2, ti, 2, e2, g2, p2, b2⟩) rfl ci (fun _ => rfl) (reads_int hb hi) (reads_cons hb (fd := ⟨n3, s, 3, e3, g3, p3, b3⟩) rfl cs (fun _ => rfl) hk reads_nil)))
    have h := reads_struct hb ht (fun x => by rw [ct]; rfl) hF
    refine reads_map h (fun x => Pred.mk x.1 x.2.1 x.2.2.1 x.2.2.2.1) (fun x => ?_) (fun x => ?_)
    · rw [Pred.cells_eq]; rfl
    · show Pred.sz (Pred.mk x.1 x.2.1 x.2.2.1 x.2.2.2.1) ≤ _
      simp only [Pred.sz, Pred.szs_eq]
      exact Nat.le_refl _
/-- the walk at the door: the contract of the law gives the call -/
theorem door_calls {G : Nat → Option (List D)} {f : FuncId} {args : Array Value} {cargs : List CV} (hev : Ev P G f cargs (.one (.bool true))) (hg : GlobOk P G w (liveS w)) (ha : RepCL w (liveS w) cargs args.toList) :
    Calls P f args w fun e w' => e = .returned (.bool true) ∧ Below w.heap.size w w' := by
  refine (hev.2 w (liveS w) args (fun b o h => h) hg ha).mono fun e w' h => ?_
  obtain ⟨v, S', he, hr, hb, _⟩ := h
  have : v = .bool true := hr
  subst this
  exact ⟨he, hb⟩
theorem repCL_cons {c : CV} {v : Value} {cs : List CV} {vs : List Value} (h : RepC w (liveS w) c v) (hs : RepCL w (liveS w) cs vs) : RepCL w (liveS w) (c :: cs) (v :: vs) := ⟨v, vs, rfl, h, hs⟩
/-- an argument that is one cell -/
theorem rep_one {α : Type} {r : Reach} {b n : Nat} {t : TypeId} {dsc : TypeDesc} {v : Value} {d : DataW H} {ps : List MemPlace} {f : α → D} {sz : α → Nat} (ht : P.underlying t = some dsc) (hd : dsc = .bool ∨ dsc = .string ∨ (∃ k, dsc = .int k) ∨ ∃ e, dsc = .slice e) (hval : Value.okWide P w r b t v)
    (hr : ReadsAt enc P w bulk n t (fun x => [f x]) sz) (h : DataW.trod enc P w 0 (fun _ => true) true n t v.cells.toList = some (d, ps)) : ∃ x : α, RepC w (liveS w) (.one (f x)) v ∧ sz x ≤ bulk d := by
  obtain ⟨x, h1, h2⟩ := hr _ _ _ h
  rw [arg_one ht hd hval] at h1
  obtain ⟨v', r', e, h3, _⟩ := h1
  cases e
  exact ⟨x, h3, h2⟩
/-- an argument that is a struct -/
theorem rep_agg {α : Type} {r : Reach} {b n : Nat} {t : TypeId} {fs : Array Field} {v : Value} {d : DataW H} {ps : List MemPlace} {f : α → List D} {sz : α → Nat} (ht : P.underlying t = some (.struct fs)) (hval : Value.okWide P w r b t v)
    (hr : ReadsAt enc P w bulk n t f sz) (h : DataW.trod enc P w 0 (fun _ => true) true n t v.cells.toList = some (d, ps)) : ∃ x : α, RepC w (liveS w) (.agg (f x)) v ∧ sz x ≤ bulk d := by
  obtain ⟨x, h1, h2⟩ := hr _ _ _ h
  obtain ⟨cs, rfl, hc⟩ := arg_agg ht hval
  rw [hc] at h1
  exact ⟨x, ⟨cs, rfl, h1⟩, h2⟩
end Go.Abs
end
section
set_option linter.unusedSimpArgs false
set_option linter.unusedVariables false
set_option linter.unusedSectionVars false
namespace Go.Abs
open Go.RowKit Go.ChangeShapes
variable {H : Type} {enc : TypeId × Value → H} {P : Program} {w : World} {bulk : DataW H → Nat} {all : List (DataW H) → Nat}
/-- a variable of sorts -/
theorem reads_svar (hb : BulkOk bulk all) {t ta tb : TypeId} {n0 g0 p0 n1 g1 p1 : String} {b0 b1 : Nat} {e0 e1 : Bool}
    (ht : P.underlying t = some (.struct #[⟨n0, ta, 0, e0, g0, p0, b0⟩, ⟨n1, tb, 1, e1, g1, p1, b1⟩])) (ct : P.cellsOf t = 2)
    (uta : P.underlying ta = some .string) (cta : P.cellsOf ta = 1) (utb : P.underlying tb = some .string) (ctb : P.cellsOf tb = 1) : ∀ n, ReadsAt enc P w bulk n t SVar.cells (fun _ => 0)
  | 0 => reads_zero
  | n + 1 => by
    have hF := (reads_cons (enc := enc) (w := w) hb (n := n) (fd := ⟨n0, ta, 0, e0, g0, p0, b0⟩) (off := 0) rfl cta (fun _ => rfl) (reads_str (enc := enc) (w := w) hb uta) (reads_cons (enc := enc) (w := w) hb (n := n) (fd := ⟨n1, tb, 1, e1, g1, p1, b1⟩) rfl ctb (fun _ => rfl) (reads_str (enc := enc) (w := w) hb utb) (reads_nil (enc := enc) (w := w) (n := n))))
    have h := reads_struct hb ht (fun x => by rw [ct]; rfl) hF
    exact reads_map h (fun x => SVar.mk x.1 x.2.1) (fun x => rfl) (fun x => Nat.zero_le _)
/-- a hole -/
theorem reads_shole (hb : BulkOk bulk all) {t ta tb : TypeId} {n0 g0 p0 n1 g1 p1 : String} {b0 b1 : Nat} {e0 e1 : Bool}
    (ht : P.underlying t = some (.struct #[⟨n0, ta, 0, e0, g0, p0, b0⟩, ⟨n1, tb, 1, e1, g1, p1, b1⟩])) (ct : P.cellsOf t = 2)
    (uta : P.underlying ta = some .string) (cta : P.cellsOf ta = 1) (utb : ∀ n, ReadsAt enc P w bulk n tb (fun l : List SVar => [.lst (l.map SVar.cells)]) (fun l => (l.map fun _ => 0).sum + 1)) (ctb : P.cellsOf tb = 1) : ∀ n, ReadsAt enc P w bulk n t SHole.cells (fun _ => 0)
  | 0 => reads_zero
  | n + 1 => by
    have hF := (reads_cons (enc := enc) (w := w) hb (n := n) (fd := ⟨n0, ta, 0, e0, g0, p0, b0⟩) (off := 0) rfl cta (fun _ => rfl) (reads_str (enc := enc) (w := w) hb uta) (reads_cons (enc := enc) (w := w) hb (n := n) (fd := ⟨n1, tb, 1, e1, g1, p1, b1⟩) rfl ctb (fun _ => rfl) (utb n) (reads_nil (enc := enc) (w := w) (n := n))))
    have h := reads_struct hb ht (fun x => by rw [ct]; rfl) hF
    exact reads_map h (fun x => SHole.mk x.1 x.2.1) (fun x => rfl) (fun x => Nat.zero_le _)
end Go.Abs
end
section
set_option linter.unusedSimpArgs false
set_option linter.unusedVariables false
set_option linter.unusedSectionVars false
namespace Go.Abs
open Go.RowKit Go.ChangeShapes
variable {H : Type} {enc : TypeId × Value → H} {P : Program} {w : World} {bulk : DataW H → Nat} {all : List (DataW H) → Nat}
/-- a solution: a name and a predicate -/
theorem reads_ssol (hb : BulkOk bulk all) {t ta tp : TypeId} {n0 g0 p0 n1 g1 p1 : String} {b0 b1 : Nat} {e0 e1 : Bool}
    (ht : P.underlying t = some (.struct #[⟨n0, ta, 0, e0, g0, p0, b0⟩, ⟨n1, tp, 1, e1, g1, p1, b1⟩])) (ct : P.cellsOf t = 5)
    (uta : P.underlying ta = some .string) (cta : P.cellsOf ta = 1) (rp : ∀ n, ReadsAt enc P w bulk n tp Pred.cells Pred.sz) (cp : P.cellsOf tp = 4) : ∀ n, ReadsAt enc P w bulk n t SSol.cells (fun s => s.pred.sz)
  | 0 => reads_zero
  | n + 1 => by
    have hF := (reads_cons (enc := enc) (w := w) hb (n := n) (fd := ⟨n0, ta, 0, e0, g0, p0, b0⟩) (off := 0) rfl cta (fun _ => rfl) (reads_str (enc := enc) (w := w) hb uta) (reads_cons (enc := enc) (w := w) hb (n := n) (fd := ⟨n1, tp, 1, e1, g1, p1, b1⟩) rfl cp (fun x => Pred.cells_length x) (rp n) (reads_nil (enc := enc) (w := w) (n := n))))
    have h := reads_struct hb ht (fun x => by rw [ct]; simp [Pred.cells_length]) hF
    exact reads_map h (fun x => SSol.mk x.1 x.2.1) (fun x => by simp [SSol.cells]) (fun x => by simp only; omega)
end Go.Abs
end
section
set_option linter.unusedSimpArgs false
set_option linter.unusedVariables false
set_option linter.unusedSectionVars false
namespace Go.Abs.Seat
open Go Go.Abs Go.Proofs
def tl0 : List (Nat × Ty) := [(1, Go.Abs.Ty.cell (Go.Abs.AV.d (Go.Abs.D.nilf))), (2, Go.Abs.Ty.cell (Go.Abs.AV.d (Go.Abs.D.int (Go.IntKind.i64) 0))), (3, Go.Abs.Ty.cell (Go.Abs.AV.d (Go.Abs.D.int (Go.IntKind.i64) 0))), (4, Go.Abs.Ty.cell (Go.Abs.AV.d (Go.Abs.D.bool false))), (5, Go.Abs.Ty.cell (Go.Abs.AV.d (Go.Abs.D.int (Go.IntKind.u8) 0))), (6, Go.Abs.Ty.cell (Go.Abs.AV.d (Go.Abs.D.int (Go.IntKind.u8) 0))), (7, Go.Abs.Ty.agg [Go.Abs.AV.d (Go.Abs.D.int (Go.IntKind.i64) 0), Go.Abs.AV.d (Go.Abs.D.int (Go.IntKind.i64) 0), Go.Abs.AV.d (Go.Abs.D.bool false), Go.Abs.AV.d (Go.Abs.D.int (Go.IntKind.u8) 0)] [(0, 1, false), (1, 1, false), (2, 1, false), (3, 1, false)]), (8, Go.Abs.Ty.agg [Go.Abs.AV.d (Go.Abs.D.int (Go.IntKind.i64) 0), Go.Abs.AV.d (Go.Abs.D.int (Go.IntKind.i64) 0), Go.Abs.AV.d (Go.Abs.D.bool false), Go.Abs.AV.d (Go.Abs.D.int (Go.IntKind.u8) 0)] [(0, 1, false), (1, 1, false), (2, 1, false), (3, 1, false)]), (9, Go.Abs.Ty.cell (Go.Abs.AV.d (Go.Abs.D.str []))), (10, Go.Abs.Ty.cell (Go.Abs.AV.d (Go.Abs.D.str []))), (11, Go.Abs.Ty.cell (Go.Abs.AV.d (Go.Abs.D.str []))), (12, Go.Abs.Ty.cell (Go.Abs.AV.d (Go.Abs.D.int (Go.IntKind.u64) 0))), (13, Go.Abs.Ty.agg [Go.Abs.AV.d (Go.Abs.D.str []), Go.Abs.AV.d (Go.Abs.D.int (Go.IntKind.u64) 0)] [(0, 1, false), (1, 1, false)]), (14, Go.Abs.Ty.agg [Go.Abs.AV.d (Go.Abs.D.str []), Go.Abs.AV.d (Go.Abs.D.int (Go.IntKind.u64) 0)] [(0, 1, false), (1, 1, false)]), (15, Go.Abs.Ty.cell (Go.Abs.AV.d (Go.Abs.D.nilp))), (16, Go.Abs.Ty.cell (Go.Abs.AV.d (Go.Abs.D.nilp))), (17, Go.Abs.Ty.cell (Go.Abs.AV.d (Go.Abs.D.nilp))), (18, Go.Abs.Ty.agg [Go.Abs.AV.d (Go.Abs.D.nilp)] [(0, 1, false)]), (19, Go.Abs.Ty.agg [Go.Abs.AV.d (Go.Abs.D.nilp)] [(0, 1, false)]), (21, Go.Abs.Ty.cell (Go.Abs.AV.d (Go.Abs.D.int (Go.IntKind.i32) 0))), (22, Go.Abs.Ty.cell (Go.Abs.AV.d (Go.Abs.D.int (Go.IntKind.i64) 0))), (23, Go.Abs.Ty.slice 4 56), (24, Go.Abs.Ty.agg [Go.Abs.AV.d (Go.Abs.D.int (Go.IntKind.i64) 0), Go.Abs.AV.d (Go.Abs.D.str []), Go.Abs.AV.d (Go.Abs.D.int (Go.IntKind.i64) 0), Go.Abs.AV.full []] [(0, 1, false), (1, 1, false), (2, 1, false), (3, 1, false)]), (25, Go.Abs.Ty.agg [Go.Abs.AV.d (Go.Abs.D.int (Go.IntKind.i64) 0), Go.Abs.AV.d (Go.Abs.D.str []), Go.Abs.AV.d (Go.Abs.D.int (Go.IntKind.i64) 0), Go.Abs.AV.full []] [(0, 1, false), (1, 1, false), (2, 1, false), (3, 1, false)]), (26, Go.Abs.Ty.cell (Go.Abs.AV.d (Go.Abs.D.nilf))), (27, Go.Abs.Ty.cell (Go.Abs.AV.d (Go.Abs.D.nilf))), (28, Go.Abs.Ty.cell (Go.Abs.AV.d (Go.Abs.D.int (Go.IntKind.i64) 0))), (29, Go.Abs.Ty.cell (Go.Abs.AV.d (Go.Abs.D.nilf))), (30, Go.Abs.Ty.cell (Go.Abs.AV.d (Go.Abs.D.nilf))), (31, Go.Abs.Ty.cell (Go.Abs.AV.d (Go.Abs.D.nilf))), (32, Go.Abs.Ty.cell (Go.Abs.AV.d (Go.Abs.D.nilf))), (33, Go.Abs.Ty.slice 1 16), (34, Go.Abs.Ty.cell (Go.Abs.AV.d (Go.Abs.D.nilf))), (35, Go.Abs.Ty.cell (Go.Abs.AV.d (Go.Abs.D.nilf))), (36, Go.Abs.Ty.cell (Go.Abs.AV.d (Go.Abs.D.nilf))), (37, Go.Abs.Ty.cell (Go.Abs.AV.d (Go.Abs.D.nilf))), (38, Go.Abs.Ty.cell (Go.Abs.AV.d (Go.Abs.D.nilf))), (39, Go.Abs.Ty.cell (Go.Abs.AV.d (Go.Abs.D.nilf))), (40, Go.Abs.Ty.cell (Go.Abs.AV.d (Go.Abs.D.nilf))), (41, Go.Abs.Ty.cell (Go.Abs.AV.d (Go.Abs.D.nilf)))]
def tl1 : List (Nat × Ty) := [(42, Go.Abs.Ty.cell (Go.Abs.AV.d (Go.Abs.D.nilf))), (43, Go.Abs.Ty.cell (Go.Abs.AV.d (Go.Abs.D.nilf))), (44, Go.Abs.Ty.cell (Go.Abs.AV.d (Go.Abs.D.nilf))), (45, Go.Abs.Ty.cell (Go.Abs.AV.d (Go.Abs.D.nilf))), (46, Go.Abs.Ty.cell (Go.Abs.AV.d (Go.Abs.D.nilf))), (47, Go.Abs.Ty.cell (Go.Abs.AV.d (Go.Abs.D.nilf))), (48, Go.Abs.Ty.slice 2 40), (49, Go.Abs.Ty.slice 5 72), (50, Go.Abs.Ty.slice 2 32), (51, Go.Abs.Ty.agg [Go.Abs.AV.d (Go.Abs.D.str []), Go.Abs.AV.full []] [(0, 1, false), (1, 1, false)]), (52, Go.Abs.Ty.agg [Go.Abs.AV.d (Go.Abs.D.str []), Go.Abs.AV.full []] [(0, 1, false), (1, 1, false)]), (53, Go.Abs.Ty.agg [Go.Abs.AV.d (Go.Abs.D.str []), Go.Abs.AV.d (Go.Abs.D.int (Go.IntKind.i64) 0), Go.Abs.AV.d (Go.Abs.D.str []), Go.Abs.AV.d (Go.Abs.D.int (Go.IntKind.i64) 0), Go.Abs.AV.full []] [(0, 1, false), (1, 4, true)]), (54, Go.Abs.Ty.agg [Go.Abs.AV.d (Go.Abs.D.str []), Go.Abs.AV.d (Go.Abs.D.int (Go.IntKind.i64) 0), Go.Abs.AV.d (Go.Abs.D.str []), Go.Abs.AV.d (Go.Abs.D.int (Go.IntKind.i64) 0), Go.Abs.AV.full []] [(0, 1, false), (1, 4, true)]), (55, Go.Abs.Ty.cell (Go.Abs.AV.d (Go.Abs.D.nilf))), (56, Go.Abs.Ty.cell (Go.Abs.AV.d (Go.Abs.D.nilf))), (57, Go.Abs.Ty.cell (Go.Abs.AV.d (Go.Abs.D.nilf))), (58, Go.Abs.Ty.cell (Go.Abs.AV.d (Go.Abs.D.nilf))), (59, Go.Abs.Ty.cell (Go.Abs.AV.d (Go.Abs.D.str []))), (60, Go.Abs.Ty.agg [Go.Abs.AV.d (Go.Abs.D.str []), Go.Abs.AV.d (Go.Abs.D.str [])] [(0, 1, false), (1, 1, false)]), (61, Go.Abs.Ty.agg [Go.Abs.AV.d (Go.Abs.D.str []), Go.Abs.AV.d (Go.Abs.D.str [])] [(0, 1, false), (1, 1, false)]), (62, Go.Abs.Ty.cell (Go.Abs.AV.d (Go.Abs.D.nilf))), (63, Go.Abs.Ty.cell (Go.Abs.AV.d (Go.Abs.D.nilf))), (64, Go.Abs.Ty.cell (Go.Abs.AV.d (Go.Abs.D.nilf))), (65, Go.Abs.Ty.cell (Go.Abs.AV.d (Go.Abs.D.nilf))), (66, Go.Abs.Ty.cell (Go.Abs.AV.d (Go.Abs.D.nilf))), (67, Go.Abs.Ty.cell (Go.Abs.AV.d (Go.Abs.D.nilf))), (68, Go.Abs.Ty.cell (Go.Abs.AV.d (Go.Abs.D.nilf))), (69, Go.Abs.Ty.cell (Go.Abs.AV.d (Go.Abs.D.nilf))), (70, Go.Abs.Ty.cell (Go.Abs.AV.d (Go.Abs.D.nilf))), (72, Go.Abs.Ty.cell (Go.Abs.AV.d (Go.Abs.D.nilf))), (73, Go.Abs.Ty.cell (Go.Abs.AV.d (Go.Abs.D.nilf))), (74, Go.Abs.Ty.cell (Go.Abs.AV.d (Go.Abs.D.nilf))), (75, Go.Abs.Ty.cell (Go.Abs.AV.d (Go.Abs.D.nilf))), (76, Go.Abs.Ty.cell (Go.Abs.AV.d (Go.Abs.D.nilf))), (77, Go.Abs.Ty.cell (Go.Abs.AV.d (Go.Abs.D.nilf))), (78, Go.Abs.Ty.cell (Go.Abs.AV.d (Go.Abs.D.nilf))), (79, Go.Abs.Ty.cell (Go.Abs.AV.d (Go.Abs.D.nilf))), (81, Go.Abs.Ty.cell (Go.Abs.AV.d (Go.Abs.D.nilf))), (82, Go.Abs.Ty.cell (Go.Abs.AV.d (Go.Abs.D.nilf))), (83, Go.Abs.Ty.cell (Go.Abs.AV.d (Go.Abs.D.nilf)))]
def tl2 : List (Nat × Ty) := [(84, Go.Abs.Ty.cell (Go.Abs.AV.d (Go.Abs.D.nilf))), (85, Go.Abs.Ty.cell (Go.Abs.AV.d (Go.Abs.D.nilf))), (86, Go.Abs.Ty.cell (Go.Abs.AV.d (Go.Abs.D.int (Go.IntKind.u64) 0))), (87, Go.Abs.Ty.cell (Go.Abs.AV.d (Go.Abs.D.nilf))), (88, Go.Abs.Ty.cell (Go.Abs.AV.d (Go.Abs.D.nilf))), (89, Go.Abs.Ty.cell (Go.Abs.AV.d (Go.Abs.D.int (Go.IntKind.i64) 0))), (91, Go.Abs.Ty.cell (Go.Abs.AV.d (Go.Abs.D.nilf))), (92, Go.Abs.Ty.cell (Go.Abs.AV.d (Go.Abs.D.nilf))), (93, Go.Abs.Ty.cell (Go.Abs.AV.d (Go.Abs.D.nilf))), (94, Go.Abs.Ty.cell (Go.Abs.AV.d (Go.Abs.D.nilf))), (96, Go.Abs.Ty.cell (Go.Abs.AV.d (Go.Abs.D.nilf))), (97, Go.Abs.Ty.cell (Go.Abs.AV.d (Go.Abs.D.nilf))), (98, Go.Abs.Ty.cell (Go.Abs.AV.d (Go.Abs.D.int (Go.IntKind.u32) 0))), (99, Go.Abs.Ty.cell (Go.Abs.AV.d (Go.Abs.D.nilf))), (100, Go.Abs.Ty.cell (Go.Abs.AV.d (Go.Abs.D.int (Go.IntKind.u64) 0))), (101, Go.Abs.Ty.arr 42 1 false [Go.Abs.AV.d (Go.Abs.D.str []), Go.Abs.AV.d (Go.Abs.D.str []), Go.Abs.AV.d (Go.Abs.D.str []), Go.Abs.AV.d (Go.Abs.D.str []), Go.Abs.AV.d (Go.Abs.D.str []), Go.Abs.AV.d (Go.Abs.D.str []), Go.Abs.AV.d (Go.Abs.D.str []), Go.Abs.AV.d (Go.Abs.D.str []), Go.Abs.AV.d (Go.Abs.D.str []), Go.Abs.AV.d (Go.Abs.D.str []), Go.Abs.AV.d (Go.Abs.D.str []), Go.Abs.AV.d (Go.Abs.D.str []), Go.Abs.AV.d (Go.Abs.D.str []), Go.Abs.AV.d (Go.Abs.D.str []), Go.Abs.AV.d (Go.Abs.D.str []), Go.Abs.AV.d (Go.Abs.D.str []), Go.Abs.AV.d (Go.Abs.D.str []), Go.Abs.AV.d (Go.Abs.D.str []), Go.Abs.AV.d (Go.Abs.D.str []), Go.Abs.AV.d (Go.Abs.D.str []), Go.Abs.AV.d (Go.Abs.D.str []), Go.Abs.AV.d (Go.Abs.D.str []), Go.Abs.AV.d (Go.Abs.D.str []), Go.Abs.AV.d (Go.Abs.D.str []), Go.Abs.AV.d (Go.Abs.D.str []), Go.Abs.AV.d (Go.Abs.D.str []), Go.Abs.AV.d (Go.Abs.D.str []), Go.Abs.AV.d (Go.Abs.D.str []), Go.Abs.AV.d (Go.Abs.D.str []), Go.Abs.AV.d (Go.Abs.D.str []), Go.Abs.AV.d (Go.Abs.D.str []), Go.Abs.AV.d (Go.Abs.D.str []), Go.Abs.AV.d (Go.Abs.D.str []), Go.Abs.AV.d (Go.Abs.D.str []), Go.Abs.AV.d (Go.Abs.D.str []), Go.Abs.AV.d (Go.Abs.D.str []), Go.Abs.AV.d (Go.Abs.D.str []), Go.Abs.AV.d (Go.Abs.D.str []), Go.Abs.AV.d (Go.Abs.D.str []), Go.Abs.AV.d (Go.Abs.D.str []), Go.Abs.AV.d (Go.Abs.D.str []), Go.Abs.AV.d (Go.Abs.D.str [])]), (102, Go.Abs.Ty.cell (Go.Abs.AV.d (Go.Abs.D.nilf))), (103, Go.Abs.Ty.cell (Go.Abs.AV.d (Go.Abs.D.int (Go.IntKind.u64) 0))), (104, Go.Abs.Ty.cell (Go.Abs.AV.d (Go.Abs.D.nilf))), (105, Go.Abs.Ty.cell (Go.Abs.AV.d (Go.Abs.D.nilf))), (106, Go.Abs.Ty.cell (Go.Abs.AV.d (Go.Abs.D.nilf))), (107, Go.Abs.Ty.cell (Go.Abs.AV.d (Go.Abs.D.nilp))), (108, Go.Abs.Ty.cell (Go.Abs.AV.d (Go.Abs.D.nilf))), (109, Go.Abs.Ty.cell (Go.Abs.AV.d (Go.Abs.D.nilp))), (110, Go.Abs.Ty.cell (Go.Abs.AV.d (Go.Abs.D.nilf))), (111, Go.Abs.Ty.cell (Go.Abs.AV.d (Go.Abs.D.nilf))), (112, Go.Abs.Ty.cell (Go.Abs.AV.d (Go.Abs.D.nilf))), (113, Go.Abs.Ty.agg [Go.Abs.AV.d (Go.Abs.D.nilp), Go.Abs.AV.d (Go.Abs.D.nilp), Go.Abs.AV.d (Go.Abs.D.nilp), Go.Abs.AV.d (Go.Abs.D.str [])] [(0, 1, false), (1, 1, false), (2, 1, false), (3, 1, false)]), (114, Go.Abs.Ty.agg [Go.Abs.AV.d (Go.Abs.D.nilp), Go.Abs.AV.d (Go.Abs.D.nilp), Go.Abs.AV.d (Go.Abs.D.nilp), Go.Abs.AV.d (Go.Abs.D.str [])] [(0, 1, false), (1, 1, false), (2, 1, false), (3, 1, false)]), (115, Go.Abs.Ty.arr 0 1 false []), (118, Go.Abs.Ty.cell (Go.Abs.AV.d (Go.Abs.D.nilf))), (119, Go.Abs.Ty.cell (Go.Abs.AV.d (Go.Abs.D.int (Go.IntKind.u8) 0))), (120, Go.Abs.Ty.cell (Go.Abs.AV.d (Go.Abs.D.int (Go.IntKind.u8) 0))), (121, Go.Abs.Ty.cell (Go.Abs.AV.d (Go.Abs.D.nilf))), (122, Go.Abs.Ty.cell (Go.Abs.AV.d (Go.Abs.D.nilp))), (123, Go.Abs.Ty.cell (Go.Abs.AV.d (Go.Abs.D.int (Go.IntKind.i32) 0))), (124, Go.Abs.Ty.cell (Go.Abs.AV.d (Go.Abs.D.int (Go.IntKind.i32) 0))), (125, Go.Abs.Ty.agg [Go.Abs.AV.d (Go.Abs.D.int (Go.IntKind.u64) 0), Go.Abs.AV.d (Go.Abs.D.int (Go.IntKind.u64) 0), Go.Abs.AV.d (Go.Abs.D.int (Go.IntKind.u32) 0), Go.Abs.AV.d (Go.Abs.D.int (Go.IntKind.u8) 0), Go.Abs.AV.d (Go.Abs.D.int (Go.IntKind.u8) 0), Go.Abs.AV.d (Go.Abs.D.int (Go.IntKind.u8) 0), Go.Abs.AV.d (Go.Abs.D.int (Go.IntKind.u8) 0), Go.Abs.AV.d (Go.Abs.D.nilf), Go.Abs.AV.d (Go.Abs.D.nilp), Go.Abs.AV.d (Go.Abs.D.int (Go.IntKind.i32) 0), Go.Abs.AV.d (Go.Abs.D.int (Go.IntKind.i32) 0)] [(0, 1, false), (1, 1, false), (2, 1, false), (3, 1, false), (4, 1, false), (5, 1, false), (6, 1, false), (7, 1, false), (8, 1, false), (9, 1, false), (10, 1, false)]), (126, Go.Abs.Ty.agg [Go.Abs.AV.d (Go.Abs.D.int (Go.IntKind.u64) 0), Go.Abs.AV.d (Go.Abs.D.int (Go.IntKind.u64) 0), Go.Abs.AV.d (Go.Abs.D.int (Go.IntKind.u32) 0), Go.Abs.AV.d (Go.Abs.D.int (Go.IntKind.u8) 0), Go.Abs.AV.d (Go.Abs.D.int (Go.IntKind.u8) 0), Go.Abs.AV.d (Go.Abs.D.int (Go.IntKind.u8) 0), Go.Abs.AV.d (Go.Abs.D.int (Go.IntKind.u8) 0), Go.Abs.AV.d (Go.Abs.D.nilf), Go.Abs.AV.d (Go.Abs.D.nilp), Go.Abs.AV.d (Go.Abs.D.int (Go.IntKind.i32) 0), Go.Abs.AV.d (Go.Abs.D.int (Go.IntKind.i32) 0)] [(0, 1, false), (1, 1, false), (2, 1, false), (3, 1, false), (4, 1, false), (5, 1, false), (6, 1, false), (7, 1, false), (8, 1, false), (9, 1, false), (10, 1, false)]), (127, Go.Abs.Ty.cell (Go.Abs.AV.d (Go.Abs.D.nilp)))]
def tl : List (Nat × Ty) := tl0 ++ tl1 ++ tl2
theorem tl_ok : chkTL Tryd.prog tl = true := by kernel_rfl
theorem mixed : Tryd.prog.follows .mixedOrders = true := by kernel_rfl
theorem tr_3 : trFn (getTy tl) Tryd.f3 = some fn_l07_PredChecks := by kernel_rfl
theorem tr_4 : trFn (getTy tl) Tryd.f4 = some fn_l07_PredSubsts := by kernel_rfl
theorem tr_5 : trFn (getTy tl) Tryd.f5 = some fn_l07_PredJoins := by kernel_rfl
theorem tr_6 : trFn (getTy tl) Tryd.f6 = some fn_l07_PredReplaces := by kernel_rfl
theorem tr_7 : trFn (getTy tl) Tryd.f7 = some fn_l07_PredConjuncts := by kernel_rfl
theorem tr_8 : trFn (getTy tl) Tryd.f8 = some fn_l07_PredLists := by kernel_rfl
theorem tr_9 : trFn (getTy tl) Tryd.f9 = some fn_l07_PredFills := by kernel_rfl
theorem tr_10 : trFn (getTy tl) Tryd.f10 = some fn_l07_Few := by kernel_rfl
theorem tr_11 : trFn (getTy tl) Tryd.f11 = some fn_l07_alive := by kernel_rfl
theorem tr_12 : trFn (getTy tl) Tryd.f12 = some fn_pred_Check := by kernel_rfl
theorem tr_13 : trFn (getTy tl) Tryd.f13 = some fn_r07_Check := by kernel_rfl
theorem tr_14 : trFn (getTy tl) Tryd.f14 = some fn_pred_Nodes := by kernel_rfl
theorem tr_15 : trFn (getTy tl) Tryd.f15 = some fn_r07_Nodes := by kernel_rfl
theorem tr_16 : trFn (getTy tl) Tryd.f16 = some fn_pred_Depth := by kernel_rfl
theorem tr_17 : trFn (getTy tl) Tryd.f17 = some fn_r07_Depth := by kernel_rfl
theorem tr_18 : trFn (getTy tl) Tryd.f18 = some fn_pred_Same := by kernel_rfl
theorem tr_19 : trFn (getTy tl) Tryd.f19 = some fn_r07_Same := by kernel_rfl
theorem tr_20 : trFn (getTy tl) Tryd.f20 = some fn_r04_Same := by kernel_rfl
theorem tr_21 : trFn (getTy tl) Tryd.f21 = some fn_pred_Free := by kernel_rfl
theorem tr_22 : trFn (getTy tl) Tryd.f22 = some fn_r07_Free := by kernel_rfl
theorem tr_23 : trFn (getTy tl) Tryd.f23 = some fn_l07_all := by kernel_rfl
theorem tr_24 : trFn (getTy tl) Tryd.f24 = some fn_pred_Subst := by kernel_rfl
theorem tr_25 : trFn (getTy tl) Tryd.f25 = some fn_r07_Subst := by kernel_rfl
theorem tr_26 : trFn (getTy tl) Tryd.f26 = some fn_pred_SubstAll := by kernel_rfl
theorem tr_27 : trFn (getTy tl) Tryd.f27 = some fn_r07_SubstAll := by kernel_rfl
theorem tr_28 : trFn (getTy tl) Tryd.f28 = some fn_pred_And := by kernel_rfl
theorem tr_29 : trFn (getTy tl) Tryd.f29 = some fn_r07_And := by kernel_rfl
theorem tr_30 : trFn (getTy tl) Tryd.f30 = some fn_pred_Not := by kernel_rfl
theorem tr_31 : trFn (getTy tl) Tryd.f31 = some fn_r07_Not := by kernel_rfl
theorem tr_32 : trFn (getTy tl) Tryd.f32 = some fn_r04_Find := by kernel_rfl
theorem tr_33 : trFn (getTy tl) Tryd.f33 = some fn_l07_x := by kernel_rfl
theorem tr_34 : trFn (getTy tl) Tryd.f34 = some fn_r07_False := by kernel_rfl
theorem tr_35 : trFn (getTy tl) Tryd.f35 = some fn_pred_Split := by kernel_rfl
theorem tr_36 : trFn (getTy tl) Tryd.f36 = some fn_r07_SameAll := by kernel_rfl
theorem tr_37 : trFn (getTy tl) Tryd.f37 = some fn_pred_Apps := by kernel_rfl
theorem tr_38 : trFn (getTy tl) Tryd.f38 = some fn_r07_Apps := by kernel_rfl
theorem tr_39 : trFn (getTy tl) Tryd.f39 = some fn_pred_Holes := by kernel_rfl
theorem tr_40 : trFn (getTy tl) Tryd.f40 = some fn_r07_Holes := by kernel_rfl
theorem tr_41 : trFn (getTy tl) Tryd.f41 = some fn_r07_Split := by kernel_rfl
theorem tr_42 : trFn (getTy tl) Tryd.f42 = some fn_r07_Fill := by kernel_rfl
theorem tr_43 : trFn (getTy tl) Tryd.f43 = some fn_pred_Fill := by kernel_rfl
theorem tr_44 : trFn (getTy tl) Tryd.f44 = some fn_l07_op := by kernel_rfl
theorem tr_45 : trFn (getTy tl) Tryd.f45 = some fn_l07_n := by kernel_rfl
theorem tr_46 : trFn (getTy tl) Tryd.f46 = some fn_r07_True := by kernel_rfl
theorem tr_47 : trFn (getTy tl) Tryd.f47 = some fn_pred_before := by kernel_rfl
theorem tr_48 : trFn (getTy tl) Tryd.f48 = some fn_pred_node := by kernel_rfl
theorem tr_49 : trFn (getTy tl) Tryd.f49 = some fn_r07_form := by kernel_rfl
theorem tr_50 : trFn (getTy tl) Tryd.f50 = some fn_pred_equal_api_Pred := by kernel_rfl
theorem tr_51 : trFn (getTy tl) Tryd.f51 = some fn_names_Union := by kernel_rfl
theorem tr_52 : trFn (getTy tl) Tryd.f52 = some fn_r04_Union := by kernel_rfl
theorem tr_53 : trFn (getTy tl) Tryd.f53 = some fn_names_Find := by kernel_rfl
theorem tr_54 : trFn (getTy tl) Tryd.f54 = some fn_pred_copied := by kernel_rfl
theorem tr_55 : trFn (getTy tl) Tryd.f55 = some fn_r07_with := by kernel_rfl
theorem tr_56 : trFn (getTy tl) Tryd.f56 = some fn_pred_constant := by kernel_rfl
theorem tr_57 : trFn (getTy tl) Tryd.f57 = some fn_pred_void := by kernel_rfl
theorem tr_58 : trFn (getTy tl) Tryd.f58 = some fn_r07_Void := by kernel_rfl
theorem tr_59 : trFn (getTy tl) Tryd.f59 = some fn_pred_inner := by kernel_rfl
theorem tr_60 : trFn (getTy tl) Tryd.f60 = some fn_r07_collect := by kernel_rfl
theorem tr_61 : trFn (getTy tl) Tryd.f61 = some fn_r07_solution := by kernel_rfl
theorem tr_62 : trFn (getTy tl) Tryd.f62 = some fn_pred_filled := by kernel_rfl
theorem tr_63 : trFn (getTy tl) Tryd.f63 = some fn_pred_before_1 := by kernel_rfl
theorem tr_64 : trFn (getTy tl) Tryd.f64 = some fn_pred_visit := by kernel_rfl
theorem tr_65 : trFn (getTy tl) Tryd.f65 = some fn_pred_kids := by kernel_rfl
theorem tr_66 : trFn (getTy tl) Tryd.f66 = some fn_pred_named := by kernel_rfl
theorem tr_67 : trFn (getTy tl) Tryd.f67 = some fn_num_In := by kernel_rfl
theorem tr_68 : trFn (getTy tl) Tryd.f68 = some fn_names_Core := by kernel_rfl
theorem tr_69 : trFn (getTy tl) Tryd.f69 = some fn_r07_node := by kernel_rfl
theorem tr_72 : trFn (getTy tl) Tryd.f72 = some fn_r04_put := by kernel_rfl
theorem tr_73 : trFn (getTy tl) Tryd.f73 = some fn_slices_Index_string_string := by kernel_rfl
theorem tr_74 : trFn (getTy tl) Tryd.f74 = some fn_pred_has_api_Pred := by kernel_rfl
theorem tr_75 : trFn (getTy tl) Tryd.f75 = some fn_r07_Has := by kernel_rfl
theorem tr_76 : trFn (getTy tl) Tryd.f76 = some fn_names_cut := by kernel_rfl
theorem tr_77 : trFn (getTy tl) Tryd.f77 = some fn_names_name := by kernel_rfl
theorem tr_78 : trFn (getTy tl) Tryd.f78 = some fn_names_title := by kernel_rfl
theorem tr_79 : trFn (getTy tl) Tryd.f79 = some fn_names_sized := by kernel_rfl
theorem tr_80 : trFn (getTy tl) Tryd.f80 = some fn_names_alphanumeric := by kernel_rfl
theorem tr_81 : trFn (getTy tl) Tryd.f81 = some fn_names_word := by kernel_rfl
theorem tr_82 : trFn (getTy tl) Tryd.f82 = some fn_r07_named := by kernel_rfl
theorem tr_83 : trFn (getTy tl) Tryd.f83 = some fn_r07_kids := by kernel_rfl
theorem tr_84 : trFn (getTy tl) Tryd.f84 = some fn_r01_In := by kernel_rfl
theorem tr_85 : trFn (getTy tl) Tryd.f85 = some fn_r07_called := by kernel_rfl
theorem tr_88 : trFn (getTy tl) Tryd.f88 = some fn_names_small := by kernel_rfl
theorem tr_89 : trFn (getTy tl) Tryd.f89 = some fn_names_Keyword := by kernel_rfl
theorem tr_90 : trFn (getTy tl) Tryd.f90 = some fn_names_digit := by kernel_rfl
theorem tr_91 : trFn (getTy tl) Tryd.f91 = some fn_names_capital := by kernel_rfl
theorem tr_92 : trFn (getTy tl) Tryd.f92 = some fn_r04_Core := by kernel_rfl
theorem tr_104 : trFn (getTy tl) Tryd.f104 = some fn_r04_parts := by kernel_rfl
theorem tr_105 : trFn (getTy tl) Tryd.f105 = some fn_r04_Check := by kernel_rfl
theorem tr_106 : trFn (getTy tl) Tryd.f106 = some fn_r04_Title := by kernel_rfl
theorem tr_107 : trFn (getTy tl) Tryd.f107 = some fn_r04_part := by kernel_rfl
theorem tr_114 : trFn (getTy tl) Tryd.f114 = some fn_r04_small := by kernel_rfl
theorem tr_115 : trFn (getTy tl) Tryd.f115 = some fn_r04_Keyword := by kernel_rfl
theorem tr_116 : trFn (getTy tl) Tryd.f116 = some fn_r04_digit := by kernel_rfl
theorem tr_117 : trFn (getTy tl) Tryd.f117 = some fn_r04_capital := by kernel_rfl
theorem tr_119 : trFn (getTy tl) Tryd.f119 = some fn_r04_keywords := by kernel_rfl
theorem sys (G : Nat → Option (List D)) : Sys ⟨G, Ev Tryd.prog G, ItOk Tryd.prog G⟩ where
  l07_PredChecks := fun _ _ h => ev_of_body Tryd.func3 tr_3 (fun _ _ _ h => h) (fun _ _ _ h => h) rfl (fun _ _ ht => chkTL_get tl_ok ht) mixed h
  l07_PredSubsts := fun _ _ h => ev_of_body Tryd.func4 tr_4 (fun _ _ _ h => h) (fun _ _ _ h => h) rfl (fun _ _ ht => chkTL_get tl_ok ht) mixed h
  l07_PredJoins := fun _ _ h => ev_of_body Tryd.func5 tr_5 (fun _ _ _ h => h) (fun _ _ _ h => h) rfl (fun _ _ ht => chkTL_get tl_ok ht) mixed h
  l07_PredReplaces := fun _ _ h => ev_of_body Tryd.func6 tr_6 (fun _ _ _ h => h) (fun _ _ _ h => h) rfl (fun _ _ ht => chkTL_get tl_ok ht) mixed h
  l07_PredConjuncts := fun _ _ h => ev_of_body Tryd.func7 tr_7 (fun _ _ _ h => h) (fun _ _ _ h => h) rfl (fun _ _ ht => chkTL_get tl_ok ht) mixed h
  l07_PredLists := fun _ _ h => ev_of_body Tryd.func8 tr_8 (fun _ _ _ h => h) (fun _ _ _ h => h) rfl (fun _ _ ht => chkTL_get tl_ok ht) mixed h
  l07_PredFills := fun _ _ h => ev_of_body Tryd.func9 tr_9 (fun _ _ _ h => h) (fun _ _ _ h => h) rfl (fun _ _ ht => chkTL_get tl_ok ht) mixed h
  l07_Few := fun _ _ h => ev_of_body Tryd.func10 tr_10 (fun _ _ _ h => h) (fun _ _ _ h => h) rfl (fun _ _ ht => chkTL_get tl_ok ht) mixed h
  l07_alive := fun _ _ h => ev_of_body Tryd.func11 tr_11 (fun _ _ _ h => h) (fun _ _ _ h => h) rfl (fun _ _ ht => chkTL_get tl_ok ht) mixed h
  pred_Check := fun _ _ h => ev_of_body Tryd.func12 tr_12 (fun _ _ _ h => h) (fun _ _ _ h => h) rfl (fun _ _ ht => chkTL_get tl_ok ht) mixed h
  r07_Check := fun _ _ h => ev_of_body Tryd.func13 tr_13 (fun _ _ _ h => h) (fun _ _ _ h => h) rfl (fun _ _ ht => chkTL_get tl_ok ht) mixed h
  pred_Nodes := fun _ _ h => ev_of_body Tryd.func14 tr_14 (fun _ _ _ h => h) (fun _ _ _ h => h) rfl (fun _ _ ht => chkTL_get tl_ok ht) mixed h
  r07_Nodes := fun _ _ h => ev_of_body Tryd.func15 tr_15 (fun _ _ _ h => h) (fun _ _ _ h => h) rfl (fun _ _ ht => chkTL_get tl_ok ht) mixed h
  pred_Depth := fun _ _ h => ev_of_body Tryd.func16 tr_16 (fun _ _ _ h => h) (fun _ _ _ h => h) rfl (fun _ _ ht => chkTL_get tl_ok ht) mixed h
  r07_Depth := fun _ _ h => ev_of_body Tryd.func17 tr_17 (fun _ _ _ h => h) (fun _ _ _ h => h) rfl (fun _ _ ht => chkTL_get tl_ok ht) mixed h
  pred_Same := fun _ _ h => ev_of_body Tryd.func18 tr_18 (fun _ _ _ h => h) (fun _ _ _ h => h) rfl (fun _ _ ht => chkTL_get tl_ok ht) mixed h
  r07_Same := fun _ _ h => ev_of_body Tryd.func19 tr_19 (fun _ _ _ h => h) (fun _ _ _ h => h) rfl (fun _ _ ht => chkTL_get tl_ok ht) mixed h
  r04_Same := fun _ _ h => ev_of_body Tryd.func20 tr_20 (fun _ _ _ h => h) (fun _ _ _ h => h) rfl (fun _ _ ht => chkTL_get tl_ok ht) mixed h
  pred_Free := fun _ _ h => ev_of_body Tryd.func21 tr_21 (fun _ _ _ h => h) (fun _ _ _ h => h) rfl (fun _ _ ht => chkTL_get tl_ok ht) mixed h
  r07_Free := fun _ _ h => ev_of_body Tryd.func22 tr_22 (fun _ _ _ h => h) (fun _ _ _ h => h) rfl (fun _ _ ht => chkTL_get tl_ok ht) mixed h
  l07_all := fun _ _ h => ev_of_body Tryd.func23 tr_23 (fun _ _ _ h => h) (fun _ _ _ h => h) rfl (fun _ _ ht => chkTL_get tl_ok ht) mixed h
  pred_Subst := fun _ _ h => ev_of_body Tryd.func24 tr_24 (fun _ _ _ h => h) (fun _ _ _ h => h) rfl (fun _ _ ht => chkTL_get tl_ok ht) mixed h
  r07_Subst := fun _ _ h => ev_of_body Tryd.func25 tr_25 (fun _ _ _ h => h) (fun _ _ _ h => h) rfl (fun _ _ ht => chkTL_get tl_ok ht) mixed h
  pred_SubstAll := fun _ _ h => ev_of_body Tryd.func26 tr_26 (fun _ _ _ h => h) (fun _ _ _ h => h) rfl (fun _ _ ht => chkTL_get tl_ok ht) mixed h
  r07_SubstAll := fun _ _ h => ev_of_body Tryd.func27 tr_27 (fun _ _ _ h => h) (fun _ _ _ h => h) rfl (fun _ _ ht => chkTL_get tl_ok ht) mixed h
  pred_And := fun _ _ h => ev_of_body Tryd.func28 tr_28 (fun _ _ _ h => h) (fun _ _ _ h => h) rfl (fun _ _ ht => chkTL_get tl_ok ht) mixed h
  r07_And := fun _ _ h => ev_of_body Tryd.func29 tr_29 (fun _ _ _ h => h) (fun _ _ _ h => h) rfl (fun _ _ ht => chkTL_get tl_ok ht) mixed h
  pred_Not := fun _ _ h => ev_of_body Tryd.func30 tr_30 (fun _ _ _ h => h) (fun _ _ _ h => h) rfl (fun _ _ ht => chkTL_get tl_ok ht) mixed h
  r07_Not := fun _ _ h => ev_of_body Tryd.func31 tr_31 (fun _ _ _ h => h) (fun _ _ _ h => h) rfl (fun _ _ ht => chkTL_get tl_ok ht) mixed h
  r04_Find := fun _ _ h => ev_of_body Tryd.func32 tr_32 (fun _ _ _ h => h) (fun _ _ _ h => h) rfl (fun _ _ ht => chkTL_get tl_ok ht) mixed h
  l07_x := fun _ _ h => ev_of_body Tryd.func33 tr_33 (fun _ _ _ h => h) (fun _ _ _ h => h) rfl (fun _ _ ht => chkTL_get tl_ok ht) mixed h
  r07_False := fun _ _ h => ev_of_body Tryd.func34 tr_34 (fun _ _ _ h => h) (fun _ _ _ h => h) rfl (fun _ _ ht => chkTL_get tl_ok ht) mixed h
  pred_Split := fun _ _ h => ev_of_body Tryd.func35 tr_35 (fun _ _ _ h => h) (fun _ _ _ h => h) rfl (fun _ _ ht => chkTL_get tl_ok ht) mixed h
  r07_SameAll := fun _ _ h => ev_of_body Tryd.func36 tr_36 (fun _ _ _ h => h) (fun _ _ _ h => h) rfl (fun _ _ ht => chkTL_get tl_ok ht) mixed h
  pred_Apps := fun _ _ h => ev_of_body Tryd.func37 tr_37 (fun _ _ _ h => h) (fun _ _ _ h => h) rfl (fun _ _ ht => chkTL_get tl_ok ht) mixed h
  r07_Apps := fun _ _ h => ev_of_body Tryd.func38 tr_38 (fun _ _ _ h => h) (fun _ _ _ h => h) rfl (fun _ _ ht => chkTL_get tl_ok ht) mixed h
  pred_Holes := fun _ _ h => ev_of_body Tryd.func39 tr_39 (fun _ _ _ h => h) (fun _ _ _ h => h) rfl (fun _ _ ht => chkTL_get tl_ok ht) mixed h
  r07_Holes := fun _ _ h => ev_of_body Tryd.func40 tr_40 (fun _ _ _ h => h) (fun _ _ _ h => h) rfl (fun _ _ ht => chkTL_get tl_ok ht) mixed h
  r07_Split := fun _ _ h => ev_of_body Tryd.func41 tr_41 (fun _ _ _ h => h) (fun _ _ _ h => h) rfl (fun _ _ ht => chkTL_get tl_ok ht) mixed h
  r07_Fill := fun _ _ h => ev_of_body Tryd.func42 tr_42 (fun _ _ _ h => h) (fun _ _ _ h => h) rfl (fun _ _ ht => chkTL_get tl_ok ht) mixed h
  pred_Fill := fun _ _ h => ev_of_body Tryd.func43 tr_43 (fun _ _ _ h => h) (fun _ _ _ h => h) rfl (fun _ _ ht => chkTL_get tl_ok ht) mixed h
  l07_op := fun _ _ h => ev_of_body Tryd.func44 tr_44 (fun _ _ _ h => h) (fun _ _ _ h => h) rfl (fun _ _ ht => chkTL_get tl_ok ht) mixed h
  l07_n := fun _ _ h => ev_of_body Tryd.func45 tr_45 (fun _ _ _ h => h) (fun _ _ _ h => h) rfl (fun _ _ ht => chkTL_get tl_ok ht) mixed h
  r07_True := fun _ _ h => ev_of_body Tryd.func46 tr_46 (fun _ _ _ h => h) (fun _ _ _ h => h) rfl (fun _ _ ht => chkTL_get tl_ok ht) mixed h
  pred_before := fun _ _ h => ev_of_body Tryd.func47 tr_47 (fun _ _ _ h => h) (fun _ _ _ h => h) rfl (fun _ _ ht => chkTL_get tl_ok ht) mixed h
  pred_node := fun _ _ h => ev_of_body Tryd.func48 tr_48 (fun _ _ _ h => h) (fun _ _ _ h => h) rfl (fun _ _ ht => chkTL_get tl_ok ht) mixed h
  r07_form := fun _ _ h => ev_of_body Tryd.func49 tr_49 (fun _ _ _ h => h) (fun _ _ _ h => h) rfl (fun _ _ ht => chkTL_get tl_ok ht) mixed h
  pred_equal_api_Pred := fun _ _ h => ev_of_body Tryd.func50 tr_50 (fun _ _ _ h => h) (fun _ _ _ h => h) rfl (fun _ _ ht => chkTL_get tl_ok ht) mixed h
  names_Union := fun _ _ h => ev_of_body Tryd.func51 tr_51 (fun _ _ _ h => h) (fun _ _ _ h => h) rfl (fun _ _ ht => chkTL_get tl_ok ht) mixed h
  r04_Union := fun _ _ h => ev_of_body Tryd.func52 tr_52 (fun _ _ _ h => h) (fun _ _ _ h => h) rfl (fun _ _ ht => chkTL_get tl_ok ht) mixed h
  names_Find := fun _ _ h => ev_of_body Tryd.func53 tr_53 (fun _ _ _ h => h) (fun _ _ _ h => h) rfl (fun _ _ ht => chkTL_get tl_ok ht) mixed h
  pred_copied := fun _ _ h => ev_of_body Tryd.func54 tr_54 (fun _ _ _ h => h) (fun _ _ _ h => h) rfl (fun _ _ ht => chkTL_get tl_ok ht) mixed h
  r07_with := fun _ _ h => ev_of_body Tryd.func55 tr_55 (fun _ _ _ h => h) (fun _ _ _ h => h) rfl (fun _ _ ht => chkTL_get tl_ok ht) mixed h
  pred_constant := fun _ _ h => ev_of_body Tryd.func56 tr_56 (fun _ _ _ h => h) (fun _ _ _ h => h) rfl (fun _ _ ht => chkTL_get tl_ok ht) mixed h
  pred_void := fun _ _ h => ev_of_body Tryd.func57 tr_57 (fun _ _ _ h => h) (fun _ _ _ h => h) rfl (fun _ _ ht => chkTL_get tl_ok ht) mixed h
  r07_Void := fun _ _ h => ev_of_body Tryd.func58 tr_58 (fun _ _ _ h => h) (fun _ _ _ h => h) rfl (fun _ _ ht => chkTL_get tl_ok ht) mixed h
  pred_inner := fun _ _ h => ev_of_body Tryd.func59 tr_59 (fun _ _ _ h => h) (fun _ _ _ h => h) rfl (fun _ _ ht => chkTL_get tl_ok ht) mixed h
  r07_collect := fun _ _ h => ev_of_body Tryd.func60 tr_60 (fun _ _ _ h => h) (fun _ _ _ h => h) rfl (fun _ _ ht => chkTL_get tl_ok ht) mixed h
  r07_solution := fun _ _ h => ev_of_body Tryd.func61 tr_61 (fun _ _ _ h => h) (fun _ _ _ h => h) rfl (fun _ _ ht => chkTL_get tl_ok ht) mixed h
  pred_filled := fun _ _ h => ev_of_body Tryd.func62 tr_62 (fun _ _ _ h => h) (fun _ _ _ h => h) rfl (fun _ _ ht => chkTL_get tl_ok ht) mixed h
  pred_before_1 := fun _ _ h => ev_of_body Tryd.func63 tr_63 (fun _ _ _ h => h) (fun _ _ _ h => h) rfl (fun _ _ ht => chkTL_get tl_ok ht) mixed h
  pred_visit := fun _ _ h => ev_of_body Tryd.func64 tr_64 (fun _ _ _ h => h) (fun _ _ _ h => h) rfl (fun _ _ ht => chkTL_get tl_ok ht) mixed h
  pred_kids := fun _ _ h => ev_of_body Tryd.func65 tr_65 (fun _ _ _ h => h) (fun _ _ _ h => h) rfl (fun _ _ ht => chkTL_get tl_ok ht) mixed h
  pred_named := fun _ _ h => ev_of_body Tryd.func66 tr_66 (fun _ _ _ h => h) (fun _ _ _ h => h) rfl (fun _ _ ht => chkTL_get tl_ok ht) mixed h
  num_In := fun _ _ h => ev_of_body Tryd.func67 tr_67 (fun _ _ _ h => h) (fun _ _ _ h => h) rfl (fun _ _ ht => chkTL_get tl_ok ht) mixed h
  names_Core := fun _ _ h => ev_of_body Tryd.func68 tr_68 (fun _ _ _ h => h) (fun _ _ _ h => h) rfl (fun _ _ ht => chkTL_get tl_ok ht) mixed h
  r07_node := fun _ _ h => ev_of_body Tryd.func69 tr_69 (fun _ _ _ h => h) (fun _ _ _ h => h) rfl (fun _ _ ht => chkTL_get tl_ok ht) mixed h
  r04_put := fun _ _ h => ev_of_body Tryd.func72 tr_72 (fun _ _ _ h => h) (fun _ _ _ h => h) rfl (fun _ _ ht => chkTL_get tl_ok ht) mixed h
  slices_Index_string_string := fun _ _ h => ev_of_body Tryd.func73 tr_73 (fun _ _ _ h => h) (fun _ _ _ h => h) rfl (fun _ _ ht => chkTL_get tl_ok ht) mixed h
  pred_has_api_Pred := fun _ _ h => ev_of_body Tryd.func74 tr_74 (fun _ _ _ h => h) (fun _ _ _ h => h) rfl (fun _ _ ht => chkTL_get tl_ok ht) mixed h
  r07_Has := fun _ _ h => ev_of_body Tryd.func75 tr_75 (fun _ _ _ h => h) (fun _ _ _ h => h) rfl (fun _ _ ht => chkTL_get tl_ok ht) mixed h
  names_cut := fun _ _ h => ev_of_body Tryd.func76 tr_76 (fun _ _ _ h => h) (fun _ _ _ h => h) rfl (fun _ _ ht => chkTL_get tl_ok ht) mixed h
  names_name := fun _ _ h => ev_of_body Tryd.func77 tr_77 (fun _ _ _ h => h) (fun _ _ _ h => h) rfl (fun _ _ ht => chkTL_get tl_ok ht) mixed h
  names_title := fun _ _ h => ev_of_body Tryd.func78 tr_78 (fun _ _ _ h => h) (fun _ _ _ h => h) rfl (fun _ _ ht => chkTL_get tl_ok ht) mixed h
  names_sized := fun _ _ h => ev_of_body Tryd.func79 tr_79 (fun _ _ _ h => h) (fun _ _ _ h => h) rfl (fun _ _ ht => chkTL_get tl_ok ht) mixed h
  names_alphanumeric := fun _ _ h => ev_of_body Tryd.func80 tr_80 (fun _ _ _ h => h) (fun _ _ _ h => h) rfl (fun _ _ ht => chkTL_get tl_ok ht) mixed h
  names_word := fun _ _ h => ev_of_body Tryd.func81 tr_81 (fun _ _ _ h => h) (fun _ _ _ h => h) rfl (fun _ _ ht => chkTL_get tl_ok ht) mixed h
  r07_named := fun _ _ h => ev_of_body Tryd.func82 tr_82 (fun _ _ _ h => h) (fun _ _ _ h => h) rfl (fun _ _ ht => chkTL_get tl_ok ht) mixed h
  r07_kids := fun _ _ h => ev_of_body Tryd.func83 tr_83 (fun _ _ _ h => h) (fun _ _ _ h => h) rfl (fun _ _ ht => chkTL_get tl_ok ht) mixed h
  r01_In := fun _ _ h => ev_of_body Tryd.func84 tr_84 (fun _ _ _ h => h) (fun _ _ _ h => h) rfl (fun _ _ ht => chkTL_get tl_ok ht) mixed h
  r07_called := fun _ _ h => ev_of_body Tryd.func85 tr_85 (fun _ _ _ h => h) (fun _ _ _ h => h) rfl (fun _ _ ht => chkTL_get tl_ok ht) mixed h
  names_small := fun _ _ h => ev_of_body Tryd.func88 tr_88 (fun _ _ _ h => h) (fun _ _ _ h => h) rfl (fun _ _ ht => chkTL_get tl_ok ht) mixed h
  names_Keyword := fun _ _ h => ev_of_body Tryd.func89 tr_89 (fun _ _ _ h => h) (fun _ _ _ h => h) rfl (fun _ _ ht => chkTL_get tl_ok ht) mixed h
  names_digit := fun _ _ h => ev_of_body Tryd.func90 tr_90 (fun _ _ _ h => h) (fun _ _ _ h => h) rfl (fun _ _ ht => chkTL_get tl_ok ht) mixed h
  names_capital := fun _ _ h => ev_of_body Tryd.func91 tr_91 (fun _ _ _ h => h) (fun _ _ _ h => h) rfl (fun _ _ ht => chkTL_get tl_ok ht) mixed h
  r04_Core := fun _ _ h => ev_of_body Tryd.func92 tr_92 (fun _ _ _ h => h) (fun _ _ _ h => h) rfl (fun _ _ ht => chkTL_get tl_ok ht) mixed h
  r04_parts := fun _ _ h => ev_of_body Tryd.func104 tr_104 (fun _ _ _ h => h) (fun _ _ _ h => h) rfl (fun _ _ ht => chkTL_get tl_ok ht) mixed h
  r04_Check := fun _ _ h => ev_of_body Tryd.func105 tr_105 (fun _ _ _ h => h) (fun _ _ _ h => h) rfl (fun _ _ ht => chkTL_get tl_ok ht) mixed h
  r04_Title := fun _ _ h => ev_of_body Tryd.func106 tr_106 (fun _ _ _ h => h) (fun _ _ _ h => h) rfl (fun _ _ ht => chkTL_get tl_ok ht) mixed h
  r04_part := fun _ _ h => ev_of_body Tryd.func107 tr_107 (fun _ _ _ h => h) (fun _ _ _ h => h) rfl (fun _ _ ht => chkTL_get tl_ok ht) mixed h
  r04_small := fun _ _ h => ev_of_body Tryd.func114 tr_114 (fun _ _ _ h => h) (fun _ _ _ h => h) rfl (fun _ _ ht => chkTL_get tl_ok ht) mixed h
  r04_Keyword := fun _ _ h => ev_of_body Tryd.func115 tr_115 (fun _ _ _ h => h) (fun _ _ _ h => h) rfl (fun _ _ ht => chkTL_get tl_ok ht) mixed h
  r04_digit := fun _ _ h => ev_of_body Tryd.func116 tr_116 (fun _ _ _ h => h) (fun _ _ _ h => h) rfl (fun _ _ ht => chkTL_get tl_ok ht) mixed h
  r04_capital := fun _ _ h => ev_of_body Tryd.func117 tr_117 (fun _ _ _ h => h) (fun _ _ _ h => h) rfl (fun _ _ ht => chkTL_get tl_ok ht) mixed h
  r04_keywords := fun _ _ h => ev_of_body Tryd.func119 tr_119 (fun _ _ _ h => h) (fun _ _ _ h => h) rfl (fun _ _ ht => chkTL_get tl_ok ht) mixed h
/-- the family of environments by what the globals hold -/
def X (G : Nat → Option (List D)) : AEnv := ⟨G, Ev Tryd.prog G, ItOk Tryd.prog G⟩
theorem before_it (G : Nat → Option (List D)) (p : Pred) : ItOk Tryd.prog G pred_before_1 [.ref (Pred.cells p)] (yields p.pre) := before_1_ok (P := Tryd.prog) (T := getTy tl) (fun _ _ ht => chkTL_get tl_ok ht) Tryd.func64 tr_64 Tryd.func63 tr_63 p
def G0 : Nat → Option (List D) := fun g => if g = 0 then some (kws.map .str) else none
end Go.Abs.Seat
end
section
set_option linter.unusedSimpArgs false
set_option linter.unusedVariables false
set_option linter.unusedSectionVars false
namespace Go.Proofs
open Go.Shelf
def Tryd.lays190_ren : Go.Shelf.Ren := ⟨fun | 190 => 70 | 125 => 87 | 258 => 86 | 128 => 102 | 129 => 103 | 302 => 93 | 303 => 94 | 304 => 95 | 305 => 96 | 306 => 97 | 307 => 98 | 308 => 99 | 309 => 100 | 310 => 101 | 333 => 108 | 329 => 109 | 330 => 110 | 334 => 111 | 335 => 112 | 336 => 113 | 344 => 118 | n => n, fun | 31 => 33 | 9 => 9 | 3 => 3 | 46 => 86 | 0 => 0 | 51 => 98 | 53 => 100 | 4 => 4 | 183 => 90 | 182 => 89 | 131 => 95 | 5 => 5 | 218 => 103 | 222 => 107 | 228 => 109 | 229 => 71 | n => n, fun | n => n⟩
theorem Tryd.lays190 : Go.Proofs.Lays.n190 Tryd.prog Tryd.lays190_ren := {
  mixed := by kernel_rfl
  f125 := Tryd.func87.trans (congrArg some (by kernel_rfl))
  f128 := Tryd.func102.trans (congrArg some (by kernel_rfl))
  f129 := Tryd.func103.trans (congrArg some (by kernel_rfl))
  f190 := Tryd.func70.trans (congrArg some (by kernel_rfl))
  f258 := Tryd.func86.trans (congrArg some (by kernel_rfl))
  f302 := Tryd.func93.trans (congrArg some (by kernel_rfl))
  f303 := Tryd.func94.trans (congrArg some (by kernel_rfl))
  f304 := Tryd.func95.trans (congrArg some (by kernel_rfl))
  f305 := Tryd.func96.trans (congrArg some (by kernel_rfl))
  f306 := Tryd.func97.trans (congrArg some (by kernel_rfl))
  f307 := Tryd.func98.trans (congrArg some (by kernel_rfl))
  f308 := Tryd.func99.trans (congrArg some (by kernel_rfl))
  f309 := Tryd.func100.trans (congrArg some (by kernel_rfl))
  f310 := Tryd.func101.trans (congrArg some (by kernel_rfl))
  f329 := Tryd.func109.trans (congrArg some (by kernel_rfl))
  f330 := Tryd.func110.trans (congrArg some (by kernel_rfl))
  f333 := Tryd.func108.trans (congrArg some (by kernel_rfl))
  f334 := Tryd.func111.trans (congrArg some (by kernel_rfl))
  f335 := Tryd.func112.trans (congrArg some (by kernel_rfl))
  f336 := Tryd.func113.trans (congrArg some (by kernel_rfl))
  f344 := Tryd.func118.trans (congrArg some (by kernel_rfl))
  t0 := Tryd.underlying0
  a0 := Tryd.isAgg0
  z0 := Tryd.sizeOf0
  v0 := Tryd.zeroValue0
  t3 := Tryd.underlying3
  a3 := Tryd.isAgg3
  z3 := Tryd.sizeOf3
  v3 := Tryd.zeroValue3
  t4 := Tryd.underlying4
  a4 := Tryd.isAgg4
  z4 := Tryd.sizeOf4
  v4 := Tryd.zeroValue4
  t5 := Tryd.underlying5
  a5 := Tryd.isAgg5
  z5 := Tryd.sizeOf5
  v5 := Tryd.zeroValue5
  t9 := Tryd.underlying9
  a9 := Tryd.isAgg9
  z9 := Tryd.sizeOf9
  v9 := Tryd.zeroValue9
  t31 := Tryd.underlying33
  a31 := Tryd.isAgg33
  z31 := Tryd.sizeOf33
  v31 := Tryd.zeroValue33
  t46 := Tryd.underlying86
  a46 := Tryd.isAgg86
  z46 := Tryd.sizeOf86
  v46 := Tryd.zeroValue86
  t51 := Tryd.underlying98
  a51 := Tryd.isAgg98
  z51 := Tryd.sizeOf98
  v51 := Tryd.zeroValue98
  t53 := Tryd.underlying100
  a53 := Tryd.isAgg100
  z53 := Tryd.sizeOf100
  v53 := Tryd.zeroValue100
  t131 := Tryd.underlying95
  a131 := Tryd.isAgg95
  z131 := Tryd.sizeOf95
  v131 := Tryd.zeroValue95
  t182 := Tryd.underlying89
  a182 := Tryd.isAgg89
  z182 := Tryd.sizeOf89
  v182 := Tryd.zeroValue89
  t183 := Tryd.underlying90
  a183 := Tryd.isAgg90
  z183 := Tryd.sizeOf90
  v183 := Tryd.zeroValue90
  t218 := Tryd.underlying103
  a218 := Tryd.isAgg103
  z218 := Tryd.sizeOf103
  v218 := Tryd.zeroValue103
  t222 := Tryd.underlying107
  a222 := Tryd.isAgg107
  z222 := Tryd.sizeOf107
  v222 := Tryd.zeroValue107
  t228 := Tryd.underlying109
  a228 := Tryd.isAgg109
  z228 := Tryd.sizeOf109
  v228 := Tryd.zeroValue109
  t229 := Tryd.underlying71
  a229 := Tryd.isAgg71
  z229 := Tryd.sizeOf71
  v229 := Tryd.zeroValue71 }
open Go.Sort Go.RowKit in
theorem Tryd.slices_Sort_string (blk off cap : Nat) (ss : List (List UInt8)) (w : World) (hH : Holds encStr w blk off ss.toArray) (hblk : blk < w.heap.size) (hsz : ss.length < 4611686018427387904) :
    Calls Tryd.prog 70 #[.slice (some ⟨blk, off, none⟩) ss.length cap] w fun e w' =>
      e = .returned (.tuple #[]) ∧ ∃ n os, w' = grow (putRow encStr (Sort.ahead w n) blk off (ss.mergeSort fun x y => decide (x ≤ y)).toArray) os := Any.slices_Sort_string Tryd.lays190 blk off cap ss w hH hblk hsz
def Tryd.lays194_ren : Go.Shelf.Ren := ⟨fun | 194 => 71 | n => n, fun | 31 => 33 | 9 => 9 | 3 => 3 | 4 => 4 | 0 => 0 | n => n, fun | n => n⟩
theorem Tryd.lays194 : Go.Proofs.Lays.n194 Tryd.prog Tryd.lays194_ren := {
  mixed := by kernel_rfl
  f194 := Tryd.func71.trans (congrArg some (by kernel_rfl))
  t0 := Tryd.underlying0
  a0 := Tryd.isAgg0
  z0 := Tryd.sizeOf0
  v0 := Tryd.zeroValue0
  t3 := Tryd.underlying3
  a3 := Tryd.isAgg3
  z3 := Tryd.sizeOf3
  v3 := Tryd.zeroValue3
  t4 := Tryd.underlying4
  a4 := Tryd.isAgg4
  z4 := Tryd.sizeOf4
  v4 := Tryd.zeroValue4
  t9 := Tryd.underlying9
  a9 := Tryd.isAgg9
  z9 := Tryd.sizeOf9
  v9 := Tryd.zeroValue9
  t31 := Tryd.underlying33
  a31 := Tryd.isAgg33
  z31 := Tryd.sizeOf33
  v31 := Tryd.zeroValue33 }
open Go.RowKit Go.Lib Go.Sort in
theorem Tryd.slices_Compact_string (blk off cap : Nat) (zs : List (List UInt8)) (w : World) (hH : Holds encStr w blk off zs.toArray) (hsz : zs.length ≤ 9223372036854775807) (hcap : zs.length ≤ cap) :
    Calls Tryd.prog 71 #[.slice (some ⟨blk, off, none⟩) zs.length cap] w fun e w' => e = .returned (.slice (some ⟨blk, off, none⟩) (Lib.compact zs).length cap) ∧ ∃ q, w' = putRow encStr (Sort.ahead w q) blk off (Lib.compact zs ++ List.replicate (zs.length - (Lib.compact zs).length) []).toArray := Any.slices_Compact_string Tryd.lays194 blk off cap zs w hH hsz hcap
open Go.RowKit Go.Lib Go.Sort in
theorem Tryd.slices_Compact_string_empty (a : Option Addr) (cap : Nat) (w : World) :
    Calls Tryd.prog 71 #[.slice a 0 cap] w fun e w' => e = .returned (.slice a 0 cap) ∧ w' = w := Any.slices_Compact_string_empty Tryd.lays194 a cap w
open Go.RowKit Go.Sort in
theorem Tryd.slices_Sort_string_none (p : Option Addr) (cap : Nat) (w : World) :
    Calls Tryd.prog 70 #[.slice p 0 cap] w fun e w' => e = .returned (.tuple #[]) ∧ w' = w := Any.slices_Sort_string_none Tryd.lays190 p cap w
end Go.Proofs
end
section
set_option linter.unusedSimpArgs false
set_option linter.unusedVariables false
set_option linter.unusedSectionVars false
set_option maxRecDepth 100000
namespace Go.Abs.Seat
open Go Go.Abs Go.Proofs
/-- names.Union, by the shelf's contracts of slices.Sort and slices.Compact -/
theorem union_of (G : Nat → Option (List D)) : UnionLaw (X G) := fun a b h =>
  union_ev (P := Tryd.prog) (T := getTy tl) (eb := 16) (cd := Tryd.f51.body.getD .ret) Tryd.func51 (by kernel_rfl) (by kernel_rfl)
    (show (segs (Tryd.f51.body.getD .ret)).map (fun l => l.map fun p => p.2.toList.map opc) = some (unionOps 33 70 71) by kernel_rfl) (by kernel_rfl) (by kernel_rfl) (fun _ _ ht => chkTL_get tl_ok ht) (chkTL_get tl_ok (show getTy tl 33 = some (.slice 1 16) by kernel_rfl)) (by decide)
    ⟨Tryd.f70, Tryd.func70, by kernel_rfl, by kernel_rfl⟩ ⟨Tryd.f71, Tryd.func71, by kernel_rfl, by kernel_rfl⟩
    (fun blk off cap ss w h1 h2 h3 => Tryd.slices_Sort_string blk off cap ss w h1 h2 h3) (fun blk off cap zs w h1 h2 h3 => Tryd.slices_Compact_string blk off cap zs w h1 h2 h3) a b h
theorem law7 : Law7 (X G0) := ⟨sys G0, rfl, before_it G0, union_of G0⟩
end Go.Abs.Seat
end
section
set_option linter.unusedSimpArgs false
set_option linter.unusedVariables false
set_option linter.unusedSectionVars false
set_option maxRecDepth 100000
namespace Go.Abs.Seat
open Go Go.Abs Go.Proofs Go.Proofs.YtaipocfddbaakaaDoor Go.RowKit Go.ChangeShapes
variable {H : Type} {enc : TypeId × Value → H} {w : World}
theorem bulkOk : BulkOk (Rows.uptoBulk (H := H)) Rows.uptoBulkAll where
  one d := by
    cases d with
    | lit l => cases l <;> simp only [Rows.uptoBulk] <;> omega
    | _ => simp only [Rows.uptoBulk]; omega
  str s := by simp only [Rows.uptoBulk]; omega
  slice a b := by simp only [Rows.uptoBulk]; omega
  agg a := by simp only [Rows.uptoBulk]; omega
  cons d r := by simp only [Rows.uptoBulkAll]; omega
theorem cs1 : ∀ t ∈ [3, 9, 22, 23, 33, 48, 49, 50, 59], Tryd.prog.cellsOf t = 1 := of_decide_eq_true (by kernel_rfl)
theorem c1 {t : Nat} (h : t ∈ [3, 9, 22, 23, 33, 48, 49, 50, 59] := by simp) : Tryd.prog.cellsOf t = 1 := cs1 t h
theorem c25 : Tryd.prog.cellsOf 25 = 4 := by kernel_rfl
theorem c61 : Tryd.prog.cellsOf 61 = 2 := by kernel_rfl
theorem c52 : Tryd.prog.cellsOf 52 = 2 := by kernel_rfl
theorem c54 : Tryd.prog.cellsOf 54 = 5 := by kernel_rfl
theorem rd_pred (n : Nat) : ReadsAt enc Tryd.prog w Rows.uptoBulk n 25 Pred.cells Pred.sz :=
  reads_pred bulkOk Tryd.underlying25 Tryd.underlying22 Tryd.underlying9 Tryd.underlying3 Tryd.underlying23 c25 c1 c1 c1 c1 n
theorem rd_preds (n : Nat) : ReadsAt enc Tryd.prog w Rows.uptoBulk n 23 (fun l : List Pred => [.lst (l.map Pred.cells)]) (fun l => (l.map Pred.sz).sum + 1) :=
  reads_slice' bulkOk Tryd.underlying23 (by rw [c25]; decide) (fun x => by rw [c25]; exact Pred.cells_length x) rd_pred n
theorem rd_str (n : Nat) : ReadsAt enc Tryd.prog w Rows.uptoBulk n 9 (fun x : List UInt8 => [.str x]) (fun x => x.length + 1) := reads_str bulkOk Tryd.underlying9
theorem rd_strs (n : Nat) : ReadsAt enc Tryd.prog w Rows.uptoBulk n 33 (fun l : List (List UInt8) => [.lst (l.map fun k => [.str k])]) (fun l => (l.map fun x => x.length + 1).sum + 1) := reads_slice' bulkOk Tryd.underlying33 (by rw [c1]; decide) (fun x => by rw [c1]; rfl) rd_str n
theorem rd_var (n : Nat) : ReadsAt enc Tryd.prog w Rows.uptoBulk n 61 SVar.cells (fun _ => 0) := reads_svar bulkOk Tryd.underlying61 c61 Tryd.underlying9 c1 Tryd.underlying59 c1 n
theorem rd_vars (n : Nat) : ReadsAt enc Tryd.prog w Rows.uptoBulk n 50 (fun l : List SVar => [.lst (l.map SVar.cells)]) (fun l => (l.map fun _ => 0).sum + 1) := reads_slice' bulkOk Tryd.underlying50 (by rw [c61]; decide) (fun x => by rw [c61]; rfl) rd_var n
theorem rd_hole (n : Nat) : ReadsAt enc Tryd.prog w Rows.uptoBulk n 52 SHole.cells (fun _ => 0) := reads_shole bulkOk Tryd.underlying52 c52 Tryd.underlying9 c1 rd_vars c1 n
theorem rd_holes (n : Nat) : ReadsAt enc Tryd.prog w Rows.uptoBulk n 48 (fun l : List SHole => [.lst (l.map SHole.cells)]) (fun l => (l.map fun _ => 0).sum + 1) := reads_slice' bulkOk Tryd.underlying48 (by rw [c52]; decide) (fun x => by rw [c52]; rfl) rd_hole n
theorem rd_sol (n : Nat) : ReadsAt enc Tryd.prog w Rows.uptoBulk n 54 SSol.cells (fun s => s.pred.sz) := reads_ssol bulkOk Tryd.underlying54 c54 Tryd.underlying9 c1 rd_pred c25 n
theorem rd_sols (n : Nat) : ReadsAt enc Tryd.prog w Rows.uptoBulk n 49 (fun l : List SSol => [.lst (l.map SSol.cells)]) (fun l => (l.map fun s => s.pred.sz).sum + 1) := reads_slice' bulkOk Tryd.underlying49 (by rw [c54]; decide) (fun x => by rw [c54]; simp [SSol.cells, Pred.cells_length]) rd_sol n
theorem gk : Tryd.prog.globalNamed "liquidcheck/names.keywords" = some 0 := by kernel_rfl
theorem gkType : (Tryd.prog.globals[0]?).map (·.type) = some 101 := by kernel_rfl
theorem gkCells : Tryd.prog.cellsOf 101 = 42 := by kernel_rfl
theorem strCells : Tryd.prog.cellsOf 9 = 1 := by kernel_rfl
theorem kws_data : (Rows.laid_liquidcheck_names_keywords (H := Unit)) = strsData kws := by kernel_rfl
theorem kws_glob {r : List (String × DataW Unit)} (h : laidMet Tryd.prog (("liquidcheck/names.keywords", Rows.laid_liquidcheck_names_keywords) :: r) w) : RepCs w (liveS w) 0 0 (kws.map D.str) ∧ ∃ (vs : Array Value) (e : TypeId) (fr : Nat × Nat), w.heap[0]? = some (.cells vs e fr) ∧ vs.size = (kws.map D.str).length := strs_glob gk gkType Tryd.underlying101 Tryd.underlying9 strCells gkCells (ss := kws) (rest := r) (by rw [kws_data] at h; exact h)
theorem glob0 (hS : w.ShapedOpen Tryd.prog) (h : laidMet Tryd.prog [("liquidcheck/names.keywords", Rows.laid_liquidcheck_names_keywords)] w) : GlobOk Tryd.prog G0 w (liveS w) := by
  have hk := kws_glob h
  have key : ∀ g cs, G0 g = some cs → RepCs w (liveS w) g 0 cs ∧ ∃ (vs : Array Value) (e : TypeId) (fr : Nat × Nat), w.heap[g]? = some (.cells vs e fr) ∧ vs.size = cs.length := by
    intro g cs hg
    unfold G0 at hg
    by_cases h0 : g = 0
    · subst h0
      rw [if_pos rfl] at hg
      obtain rfl := Option.some.inj hg
      exact hk
    · rw [if_neg h0] at hg; cases hg
  exact ⟨fun g cs hg => (key g cs hg).1, globals_le hS, fun g cs _ hg _ => (key g cs hg).2⟩

theorem upto_mem : ∀ {ds : List (DataW H)} {d : DataW H}, Rows.uptoBulkAll ds ≤ 1048576 → d ∈ ds → Rows.uptoBulk d ≤ 1048576
  | [], _, _, h => by cases h
  | x :: ds, d, hs, h => by
    rw [Rows.uptoBulkAll] at hs
    rcases List.mem_cons.1 h with rfl | h
    · omega
    · exact upto_mem (by omega) h
theorem small_cnt {ds : List (DataW H)} {p : Pred} {d : DataW H} (h : Pred.sz p ≤ Rows.uptoBulk d) (hs : Rows.uptoSmall H ds = true) (hd : d ∈ ds) : p.cnt < 2 ^ 62 := by
  have h1 := Pred.cnt_sz p
  have h2 := upto_mem (of_decide_eq_true hs) hd
  omega
theorem small_big {ds : List (DataW H)} {p : Pred} {d : DataW H} (h : Pred.sz p ≤ Rows.uptoBulk d) (hs : Rows.uptoSmall H ds = true) (hd : d ∈ ds) : p.cnt ≤ 1048576 := by
  have h1 := Pred.cnt_sz p
  have h2 := upto_mem (of_decide_eq_true hs) hd
  omega
theorem sum_mem {α : Type} (f : α → Nat) : ∀ {l : List α} {x : α}, x ∈ l → f x ≤ (l.map f).sum
  | a :: l, x, h => by
    rw [List.map_cons, List.sum_cons]
    rcases List.mem_cons.1 h with rfl | h
    · omega
    · have := sum_mem f h; omega
theorem small_each {ds : List (DataW H)} {l : List Pred} {d : DataW H} (h : (l.map Pred.sz).sum + 1 ≤ Rows.uptoBulk d) (hs : Rows.uptoSmall H ds = true) (hd : d ∈ ds) : ∀ p ∈ l, p.cnt ≤ 1048576 := by
  intro p hp
  have h1 := Pred.cnt_sz p
  have h2 := upto_mem (of_decide_eq_true hs) hd
  have h3 := sum_mem Pred.sz hp
  omega
theorem small_cnts {ds : List (DataW H)} {l : List Pred} {d : DataW H} (h : (l.map Pred.sz).sum + 1 ≤ Rows.uptoBulk d) (hs : Rows.uptoSmall H ds = true) (hd : d ∈ ds) : Pred.cnts l ≤ 1048576 := by
  have h2 := upto_mem (of_decide_eq_true hs) hd
  have key : ∀ l : List Pred, Pred.cnts l ≤ (l.map Pred.sz).sum := by
    intro l
    induction l with
    | nil => simp [Pred.cnts]
    | cons p l ih =>
      have := Pred.cnt_sz p
      rw [Pred.cnts, List.map_cons, List.sum_cons]; omega
  have := key l
  omega
theorem small_sols {ds : List (DataW H)} {l : List SSol} {d : DataW H} (h : (l.map fun s => s.pred.sz).sum + 1 ≤ Rows.uptoBulk d) (hs : Rows.uptoSmall H ds = true) (hd : d ∈ ds) : ∀ s ∈ l, s.pred.cnt ≤ 1048576 := by
  intro s hm
  have h1 := Pred.cnt_sz s.pred
  have h2 := upto_mem (of_decide_eq_true hs) hd
  have h3 := sum_mem (fun s : SSol => s.pred.sz) hm
  omega
theorem own : ownKnob Tryd.prog.godebug = none := by kernel_rfl
theorem laidOut : laidOutB Tryd.prog = true := by kernel_rfl
def valsOf : List (DataW Unit) → List Value
  | [] => []
  | .lit (.string s) :: r => .string ⟨s.toArray⟩ :: valsOf r
  | .lit (.int k n) :: r => .int k n :: valsOf r
  | _ :: r => valsOf r
def cellsOfD : DataW Unit → List Value
  | .agg l => valsOf l
  | _ => []
def layAll : Array Obj → List (Nat × DataW Unit) → Array Obj
  | h, [] => h
  | h, (g, d) :: r => layAll (h.modify g fun
      | .cells _ t frozen => .cells (cellsOfD d).toArray t frozen
      | o => o) r
noncomputable def laidWorld (os : Os) : World :=
  { World.holding Tryd.prog os ⟨#[], #[], []⟩ with heap := layAll (World.holding Tryd.prog os ⟨#[], #[], []⟩).heap [(0, Rows.laid_liquidcheck_names_keywords)] }
end Go.Abs.Seat
end

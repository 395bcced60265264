/-
  THE DOOR: arguments that a statement reads as data are data of the abstract machine; the functions here are those of the program.
-/
import Derived.OpenShut
import Derived.Deep.DeepHandedRow
import Derived.Lib.LaidTab
import Derived.Carry
import Derived.ChangeCalls
import Derived.KernelRfl
import Derived.Test.YtcjbgglnoelfcaaGreatDoorProg
import Derived.Shelf.Sort.Plain
import Derived.Shelf.Slices.CompactS
import Derived.Shelf.Slices.Cells
import Derived.Shelf.Slices.In.SortNone
import Derived.Shelf.Slices.Empties2
import Derived.Shelf.LaysM
import Derived.Shelf.Strconv.Itoa3
import Derived.Lib.AppendIntMem
import Derived.Test.YtcjbgglnoelfcaaGreatDoorCards
import Derived.Test.YtcjbgglnoelfcaaGreatDoorTie
import Derived.WalkKit
import Derived.ProofKit
import Derived.Test.YtcjbgglnoelfcaaGreatDoorCon3
section
set_option linter.unusedSimpArgs false
set_option linter.unusedVariables false
set_option linter.unusedSectionVars false
namespace Go.Abs
open Go.RowKit
variable {H : Type} {enc : TypeId × Value → H} {P : Program} {w : World}
def liveS (w : World) : Safe := fun b o => ∃ v, w.cell? ⟨b, o, none⟩ = some v
structure BulkOk (bulk : DataW H → Nat) (all : List (DataW H) → Nat) : Prop where
 one : ∀ d, 1 ≤ bulk d
 str : ∀ s, s.length + 1 ≤ bulk (.lit (.string s))
 slice : ∀ a b, all a + 1 ≤ bulk (.slice a b)
 agg : ∀ a, all a + 1 ≤ bulk (.agg a)
 cons : ∀ d r, bulk d + all r ≤ all (d :: r)
variable {bulk : DataW H → Nat} {all : List (DataW H) → Nat}
def ReadsAt (enc : TypeId × Value → H) (P : Program) (w : World) (bulk : DataW H → Nat) (n : Nat) (t : TypeId) {α : Type} (f : α → List D) (sz : α → Nat) : Prop :=
 ∀ cs d ps, DataW.trod enc P w 0 (fun _ => true) true n t cs = some (d, ps) → ∃ x : α, RepL w (liveS w) (f x) cs ∧ sz x ≤ bulk d
theorem reads_map {n : Nat} {t : TypeId} {α β : Type} {f : α → List D} {sz : α → Nat} {g : β → List D} {sz' : β → Nat} (h : ReadsAt enc P w bulk n t f sz) (φ : α → β) (hf : ∀ x, g (φ x) = f x) (hs : ∀ x, sz' (φ x) ≤ sz x) : ReadsAt enc P w bulk n t g sz' := fun cs d ps hr => by
 obtain ⟨x, h1, h2⟩ := h cs d ps hr
 exact ⟨φ x, by rw [hf]; exact h1, Nat.le_trans (hs x) h2⟩
theorem reads_int (hb : BulkOk bulk all) {k : IntKind} {n : Nat} {t : TypeId} (ht : P.underlying t = some (.int k)) : ReadsAt enc P w bulk n t (fun x : Int => [.int k x]) (fun _ => 1) := by
 intro cs d ps h
 cases n with
 | zero => cases h
 | succ n =>
  unfold DataW.trod at h
  rw [ht] at h
  split at h <;> (try (cases h; done)) <;> rename_i h1 <;> cases h1
  rename_i k' m
  split at h
  ·rename_i hk
   obtain ⟨rfl, _⟩ := hk
   exact ⟨m, ⟨_, _, rfl, rfl, rfl⟩, hb.one _⟩
  ·cases h
theorem reads_bool (hb : BulkOk bulk all) {n : Nat} {t : TypeId} (ht : P.underlying t = some .bool) : ReadsAt enc P w bulk n t (fun x : Bool => [.bool x]) (fun _ => 1) := by
 intro cs d ps h
 cases n with
 | zero => cases h
 | succ n =>
  unfold DataW.trod at h
  rw [ht] at h
  split at h <;> (try (cases h; done)) <;> rename_i h1 <;> cases h1
  rename_i b
  exact ⟨b, ⟨_, _, rfl, rfl, rfl⟩, hb.one _⟩
theorem reads_str (hb : BulkOk bulk all) {n : Nat} {t : TypeId} (ht : P.underlying t = some .string) : ReadsAt enc P w bulk n t (fun x : List UInt8 => [.str x]) (fun x => x.length + 1) := by
 intro cs d ps h
 cases n with
 | zero => cases h
 | succ n =>
  unfold DataW.trod at h
  rw [ht] at h
  split at h <;> (try (cases h; done)) <;> rename_i h1 <;> cases h1
  rename_i s
  split at h
  ·rename_i hk
   cases h
   exact ⟨s.data.toList, ⟨_, _, rfl, ⟨s, rfl, rfl, by simpa [maxLen] using hk⟩, rfl⟩, hb.str _⟩
  ·cases h
theorem mapM_reads {α : Type} {f : α → List D} {sz : α → Nat} (hb : BulkOk bulk all) {n : Nat} {e : TypeId} (he : ReadsAt enc P w bulk n e f sz) (g : Nat → Option (List Value)) :
  ∀ (is : List Nat) {xs : List (DataW H × List MemPlace)}, (is.mapM fun i => (g i).bind (DataW.trod enc P w 0 (fun _ => true) true n e)) = some xs →
   ∃ l : List α, l.length = is.length ∧ (∀ k (h : k < is.length), ∃ cs, g is[k] = some cs ∧ ∃ (h' : k < l.length), RepL w (liveS w) (f l[k]) cs) ∧ (l.map sz).sum ≤ all (xs.map (·.1))
 | [], xs, h => by simp at h; subst h; exact ⟨[], rfl, by simp, by simp⟩
 | i :: is, xs, h => by
  simp only [List.mapM_cons, Option.bind_eq_bind, Option.bind_eq_some_iff, Option.pure_def, Option.some.injEq] at h
  obtain ⟨⟨d, ps⟩, ⟨cs, hg, ht⟩, xs', hxs, rfl⟩ := h
  obtain ⟨x, hx, hsz⟩ := he cs d ps ht
  obtain ⟨l, hl, hl2, hl3⟩ := mapM_reads hb he g is hxs
  refine ⟨x :: l, by simp [hl], ?_, ?_⟩
  ·intro k hk
   cases k with
   | zero => exact ⟨cs, hg, by simp, hx⟩
   | succ k =>
    obtain ⟨cs', h1, h2, h3⟩ := hl2 k (by simpa using hk)
    exact ⟨cs', h1, by simpa using h2, h3⟩
  ·simp only [List.map_cons, List.sum_cons]
   exact Nat.le_trans (Nat.add_le_add hsz hl3) (hb.cons _ _)
theorem cells_get {w : World} {a : Addr} {n : Nat} {cs : List Value} (h : w.cells? 0 a n = some cs) : cs.length = n ∧ ∀ j, j < n → ∃ v, cs[j]? = some v ∧ w.cell? (a.add j) = some v := by
 unfold World.cells? at h
 rw [if_pos (Nat.zero_le _)] at h
 have key : ∀ (is : List Nat) (cs : List Value), (is.mapM fun i => w.cell? (a.add i)) = some cs → cs.length = is.length ∧ ∀ k (hk : k < is.length), ∃ v, cs[k]? = some v ∧ w.cell? (a.add is[k]) = some v := by
  intro is
  induction is with
  | nil => intro cs h; simp at h; subst h; simp
  | cons i is ih =>
   intro cs h
   simp only [List.mapM_cons, Option.bind_eq_bind, Option.bind_eq_some_iff, Option.pure_def, Option.some.injEq] at h
   obtain ⟨v, hv, cs', hcs, rfl⟩ := h
   obtain ⟨h1, h2⟩ := ih cs' hcs
   refine ⟨by simp [h1], fun k hk => ?_⟩
   cases k with
   | zero => exact ⟨v, rfl, hv⟩
   | succ k => simpa using h2 k (by simpa using hk)
 obtain ⟨h1, h2⟩ := key _ _ h
 refine ⟨by simpa using h1, fun j hj => ?_⟩
 obtain ⟨v, e1, e2⟩ := h2 j (by simpa using hj)
 exact ⟨v, e1, by simpa using e2⟩
theorem spot_of_cell {w : World} {a : Addr} {v : Value} (h : w.cell? a = some v) : a.spot = none := by
 unfold World.cell? at h
 split at h
 ·split at h
  ·cases h
  ·rename_i hs; cases hh : a.spot with
   | none => rfl
   | some x => rw [hh] at hs; simp at hs
 ·cases h
theorem addr_add2 {a : Addr} (h : a.spot = none) (n : Nat) : a.add n = ⟨a.block, a.off + n, none⟩ := by
 obtain ⟨b, o, sp⟩ := a
 simp only at h
 subst h
 exact addr_add b o n
theorem reads_slice (hb : BulkOk bulk all) {α : Type} {f : α → List D} {sz : α → Nat} {n : Nat} {t e : TypeId} (ht : P.underlying t = some (.slice e)) (hk : P.cellsOf e ≠ 0) (hf : ∀ x, (f x).length = P.cellsOf e) (he : ReadsAt enc P w bulk n e f sz) :
  ReadsAt enc P w bulk (n + 1) t (fun l : List α => [.lst (l.map f)]) (fun l => (l.map sz).sum + 1) := by
 intro cs d ps h
 unfold DataW.trod at h
 rw [ht] at h
 split at h <;> (try (cases h; done)) <;> rename_i h1 <;> cases h1
 ·cases h
  exact ⟨[], ⟨_, _, rfl, ⟨none, 0, rfl, Nat.le_refl _, by omega, fun _ => rfl, fun a ha => by cases ha⟩, rfl⟩, hb.one _⟩
 ·rename_i a len cap
  simp only at h
  split at h
  ·rename_i hc
   obtain ⟨_, hlc, hcm⟩ := hc
   simp only [Option.bind_eq_some_iff, Option.map_eq_some_iff] at h
   obtain ⟨xs, hxs, rest, hrest, h⟩ := h
   cases h
   simp only [if_true] at hrest
   obtain ⟨l, hl, hl2, hl3⟩ := mapM_reads hb he (fun i => w.cells? 0 (a.add (i * P.cellsOf e)) (P.cellsOf e)) (List.range len) hxs
   have hll : l.length = len := by simpa using hl
   have hspot : cap ≠ 0 → a.spot = none := by
    intro hc0
    by_cases hl0 : len = 0
    ·subst hl0
     have hlt : 0 < cap - 0 := by omega
     obtain ⟨l', hl', hl2', _⟩ := mapM_reads hb he (fun j => w.cells? 0 (a.add ((0 + j) * P.cellsOf e)) (P.cellsOf e)) (List.range (cap - 0)) hrest
     obtain ⟨cs, hcs, _⟩ := hl2' 0 (by simpa using hlt)
     obtain ⟨_, hg⟩ := cells_get hcs
     obtain ⟨v, _, hv⟩ := hg 0 (by omega)
     have := spot_of_cell hv
     simpa [Addr.add] using this
    ·obtain ⟨cs, hcs, _⟩ := hl2 0 (by simp; omega)
     obtain ⟨_, hg⟩ := cells_get hcs
     obtain ⟨v, _, hv⟩ := hg 0 (by omega)
     have := spot_of_cell hv
     simpa [Addr.add] using this
   refine ⟨l, ⟨_, _, rfl, ⟨some a, cap, by rw [List.length_map, hll], by rw [List.length_map, hll]; exact hlc, by simpa [maxLen] using hcm, (fun h => by cases h), ?_⟩, rfl⟩, Nat.le_trans (Nat.succ_le_succ hl3) (hb.slice _ _)⟩
   intro a' ha'
   cases ha'
   refine ⟨hspot, ⟨P.cellsOf e, fun x hx => by obtain ⟨y, _, rfl⟩ := List.mem_map.1 hx; exact hf y⟩, ?_⟩
   have key : ∀ (r : List α) (i : Nat), (∀ k (hk : k < r.length), ∃ (h' : i + k < l.length), l[i + k] = r[k]) → RepEs w (liveS w) a.block (a.off + i * P.cellsOf e) (r.map f) := by
    intro r
    induction r with
    | nil => intro i _; trivial
    | cons x r ih =>
     intro i hi
     obtain ⟨h', e0⟩ := hi 0 (by simp)
     simp only [Nat.add_zero, List.getElem_cons_zero] at h' e0
     obtain ⟨cs, hcs, h2, hrep⟩ := hl2 i (by simpa [hll] using h')
     simp only [List.getElem_range] at hcs
     obtain ⟨hcl, hg⟩ := cells_get hcs
     have hsp := hspot (by omega)
     refine ⟨?_, ?_⟩
     ·rw [← e0]
      refine RepCs.of_values hrep fun j v hj => ?_
      have hj' : j < P.cellsOf e := by rw [← hcl]; exact (List.getElem?_eq_some_iff.1 hj).1
      obtain ⟨v', e1, e2⟩ := hg j hj'
      rw [hj] at e1
      cases e1
      rw [addr_add2 hsp, addr_add] at e2
      exact ⟨e2, v, e2⟩
     ·have := ih (i + 1) (fun k hk => by
        obtain ⟨g1, g2⟩ := hi (k + 1) (by simpa using hk)
        refine ⟨by omega, ?_⟩
        have e3 : i + 1 + k = i + (k + 1) := by omega
        simp only [e3]
        simpa using g2)
      rw [hf x, show a.off + i * P.cellsOf e + P.cellsOf e = a.off + (i + 1) * P.cellsOf e by rw [Nat.add_mul]; omega]
      exact this
   have := key l 0 (fun k hk => ⟨by omega, by simp⟩)
   simpa using this
  ·cases h
def ReadsF (enc : TypeId × Value → H) (P : Program) (w : World) (bulk : DataW H → Nat) (all : List (DataW H) → Nat) (n : Nat) (fs : List Field) (off : Nat) {α : Type} (f : α → List D) (sz : α → Nat) : Prop :=
 ∀ (cs : List Value) (xs : List (DataW H × List MemPlace)), (fs.mapM fun fd => DataW.trod enc P w 0 (fun _ => true) true n fd.type ((cs.drop fd.offset).take (P.cellsOf fd.type))) = some xs →
  ∃ x : α, RepL w (liveS w) (f x) ((cs.drop off).take (f x).length) ∧ sz x ≤ all (xs.map (·.1))
theorem reads_nil {n off : Nat} : ReadsF enc P w bulk all n [] off (fun _ : Unit => []) (fun _ => 0) := by
 intro cs xs h
 exact ⟨(), by simp [RepL], Nat.zero_le _⟩
theorem RepL.take_app {S : Safe} : ∀ {a b : List D} {l : List Value} , RepL w S a (l.take a.length) → RepL w S b ((l.drop a.length).take b.length) → RepL w S (a ++ b) (l.take (a ++ b).length)
 | [], b, l, _, h2 => by simpa using h2
 | x :: a, b, l, ⟨v, r, h, h1, h1'⟩, h2 => by
  cases l with
  | nil => simp at h
  | cons y l =>
   simp only [List.length_cons, List.take_succ_cons, List.cons.injEq] at h
   obtain ⟨rfl, rfl⟩ := h
   simp only [List.cons_append, List.length_cons, List.take_succ_cons]
   exact ⟨_, _, rfl, h1, RepL.take_app h1' (by simpa using h2)⟩
theorem reads_cons (hb : BulkOk bulk all) {n off k : Nat} {fd : Field} {fs : List Field} {α β : Type} {f : α → List D} {sz : α → Nat} {g : β → List D} {sz' : β → Nat} (ho : fd.offset = off) (hk : P.cellsOf fd.type = k) (hf : ∀ x, (f x).length = k)
  (h1 : ReadsAt enc P w bulk n fd.type f sz) (h2 : ReadsF enc P w bulk all n fs (off + k) g sz') : ReadsF enc P w bulk all n (fd :: fs) off (fun x : α × β => f x.1 ++ g x.2) (fun x => sz x.1 + sz' x.2) := by
 intro cs xs h
 simp only [List.mapM_cons, Option.bind_eq_bind, Option.bind_eq_some_iff, Option.pure_def, Option.some.injEq] at h
 obtain ⟨⟨d, ps⟩, hd, xs', hxs, rfl⟩ := h
 obtain ⟨x, hx, hxs1⟩ := h1 _ d ps hd
 obtain ⟨y, hy, hys⟩ := h2 cs xs' hxs
 refine ⟨(x, y), ?_, Nat.le_trans (Nat.add_le_add hxs1 hys) (by simpa using hb.cons _ _)⟩
 refine RepL.take_app ?_ ?_
 ·rw [hf x, ← hk, ← ho]; exact hx
 ·rw [hf x, List.drop_drop]
  exact hy
theorem reads_struct (hb : BulkOk bulk all) {n : Nat} {t : TypeId} {fs : Array Field} {α : Type} {f : α → List D} {sz : α → Nat} (ht : P.underlying t = some (.struct fs)) (hk : ∀ x, (f x).length = P.cellsOf t) (h : ReadsF enc P w bulk all n fs.toList 0 f sz) :
  ReadsAt enc P w bulk (n + 1) t f (fun x => sz x + 1) := by
 intro cs d ps hr
 unfold DataW.trod at hr
 simp only [ht] at hr
 split at hr
 ·rename_i hlen
  simp only [Option.map_eq_some_iff] at hr
  obtain ⟨xs, hxs, hr⟩ := hr
  cases hr
  obtain ⟨x, hx, hs⟩ := h cs xs hxs
  refine ⟨x, ?_, Nat.le_trans (Nat.succ_le_succ hs) (hb.agg _)⟩
  rw [List.drop_zero, hk x, ← hlen, List.take_length] at hx
  exact hx
 ·cases hr
end Go.Abs
end
section
set_option linter.unusedSimpArgs false
set_option linter.unusedVariables false
set_option linter.unusedSectionVars false
namespace Go.Abs
open Go.RowKit Go.ChangeShapes
variable {H : Type} {enc : TypeId × Value → H} {P : Program} {w : World}
theorem post_same {f : Func} {s : ChangeSpec} {apart fresh handsOn again : Bool} {W W' : World} {args : Array Value} {ds gs : List (DataW H)} {before : List MemPlace} {tb : TypeId}
  (hW : DataW.Whole enc P f.params.toList s.vars apart W args.toList ds gs before) (hvars : s.vars = []) (hfn : ∀ l, l.length = f.params.size → (s.fn H l).results = [.lit (.bool true)] ∧ (s.fn H l).args = l ∧ (s.fn H l).vars = []) (hb : Below W.heap.size W W')
  (hl : laidOutB P = true) (hp : ∀ t ∈ f.params.toList, P.readableRec t = true ∧ t < P.types.size) (htb : P.underlying tb = some .bool) (hr : f.resultTypes = #[tb]) : s.post enc P f apart fresh handsOn again W args (.bool true) W' := by
 obtain ⟨p, q, hA, hV, hpq, hz, hn⟩ := id hW
 rw [hvars] at hV
 obtain ⟨rfl, rfl⟩ := trodVars_none hV
 have hlen : ds.length = f.params.size := by have := (trodAll_length hA).2; simpa using this
 obtain ⟨e1, e2, e3⟩ := hfn ds hlen
 have hlt : ∀ x ∈ before, x.block < W.heap.size := hW.lt
 rw [List.append_nil] at hpq
 subst hpq
 have hres : ∀ (b : Nat) (sp : Nat → Bool) (hd : Bool), DataW.TrodAll enc P W' b sp hd f.resultTypes.toList ((Value.bool true).resultList f.resultTypes.size) (s.fn H (ds ++ [])).results [] := by
  intro b sp hd
  rw [List.append_nil, e1, hr]
  exact trodAll_cons_mk (p := []) (p' := []) (shut_bool htb true) trodAll_mk0
 have hargs : ∀ sp : Nat → Bool, (∀ x ∈ before, sp x.block = true) → DataW.TrodAll enc P W' 0 sp true f.params.toList args.toList (s.fn H (ds ++ [])).args before := by
  intro sp hsp
  rw [List.append_nil, e2]
  have key : ∀ (ts : List TypeId) (vs : List Value) (ds : List (DataW H)) (ps : List MemPlace), (∀ t ∈ ts, P.readableRec t = true ∧ t < P.types.size) → (∀ x ∈ ps, x ∈ before) → DataW.TrodAll enc P W 0 (fun _ => true) true ts vs ds ps → DataW.TrodAll enc P W' 0 sp true ts vs ds ps := by
   intro ts
   induction ts with
   | nil => intro vs ds ps _ _ h; obtain ⟨rfl, rfl, rfl⟩ := trodAll_nil h; exact trodAll_mk0
   | cons t ts ih =>
    intro vs ds ps ht hin h
    obtain ⟨v, vs', d, ds', p1, p2, rfl, rfl, rfl, h1, h2⟩ := trodAll_cons h
    exact trodAll_cons_mk (WideElems.Trod_stays hl (ht t (by simp)).1 (ht t (by simp)).2 h1 (fun x hx => hb.same (hlt x (hin x (List.mem_append_left _ hx)))) (fun x hx => hsp x (hin x (List.mem_append_left _ hx))))
     (ih vs' ds' p2 (fun t' ht' => ht t' (by simp [ht'])) (fun x hx => hin x (List.mem_append_right _ hx)) h2)
  exact key _ _ _ _ hp (fun x hx => hx) hA
 have hold : ∀ x ∈ before, (fun b => decide (b < W.heap.size)) x.block = true := fun x hx => by simpa using hlt x hx
 have hv0 : ∀ sp : Nat → Bool, DataW.TrodVars enc P W' sp s.vars (s.fn H (ds ++ [])).vars [] := by
  intro sp; rw [hvars, List.append_nil, e3]; rfl
 refine ⟨ds, [], before, [], before, [], hW, hres _ _ _, hargs _ hold, hv0 _, World.keptBut_mono (fun x hx => ⟨hx, ?_⟩) (hb.frame (· ∈ before)), fun _ => ?_⟩
 ·simpa using hx
 ·refine ⟨ok_one hr rfl (okWide_bool_mk htb true), _, _, ([] ++ before) ++ [], ⟨[] ++ before, [], trodAll_append (hargs _ (fun _ _ => rfl)) (hres _ _ _), hv0 _, rfl, ?_, ?_⟩, ?_⟩
  ·intro b off hx
   have hx' : MemPlace.cell b off ∈ before := by simpa using hx
   have : W'.frozen? ⟨b, off, none⟩ = W.frozen? ⟨b, off, none⟩ := hb.frozen (p := ⟨b, off, none⟩) (hlt _ hx')
   rw [this]
   exact hz b off hx'
  ·intro ha
   simpa using hn ha
  ·intro x hx _
   simpa using hx
def strsData {H : Type} (ss : List (List UInt8)) : DataW H := .agg (ss.map fun s => .lit (.string s))
theorem strs_of_laid {base : Nat} {sp : Nat → Bool} {held : Bool} {fuel : Nat} {t e : TypeId} {n : Nat} {cs : List Value} {ss : List (List UInt8)} {p : List MemPlace} {S : Safe}
  (ht : P.underlying t = some (.array n e)) (he : P.underlying e = some .string) (hce : P.cellsOf e = 1) (hct : P.cellsOf t = n)
  (h : DataW.trod enc P w base sp held fuel t cs = some (strsData ss, p)) : RepL w S (ss.map D.str) cs := by
 cases fuel with
 | zero => simp [DataW.trod] at h
 | succ fuel =>
  simp only [DataW.trod, ht, hce, hct, Nat.mul_one] at h
  split at h
  ·rename_i hl
   obtain ⟨xs, hm, hx⟩ := Option.map_eq_some_iff.1 h
   have hxs : xs.map (·.1) = ss.map fun s => (DataW.lit (.string s) : DataW H) := by
    have := congrArg Prod.fst hx
    simpa [strsData] using this
   have hxl : xs.length = n := by simpa using Lib.mapM_length hm
   have hsl : ss.length = n := by
    have := congrArg List.length hxs
    simp at this; omega
   have hcl : cs.length = n := hl
   have key : ∀ i (hi : i < n), ∃ (x : ByteArray), cs[i]? = some (.string x) ∧ x.data.toList = ss.getD i [] ∧ x.size ≤ 9223372036854775807 := by
    intro i hi
    obtain ⟨b, hb, hf⟩ := Lib.mapM_at hm i i (by simp [hi])
    have hc : (cs.drop i).take 1 = [cs[i]'(by omega)] := by
     rw [List.drop_eq_getElem_cons (by omega)]; rfl
    rw [hc] at hf
    have hbi : b.1 = DataW.lit (.string (ss.getD i [])) := by
     have h2 : (xs.map (·.1))[i]? = some b.1 := by simp [hb]
     rw [hxs] at h2
     rw [List.getElem?_map, List.getElem?_eq_getElem (by omega)] at h2
     simp only [Option.map_some, Option.some.injEq] at h2
     rw [← h2]
     simp [List.getD, List.getElem?_eq_getElem (show i < ss.length by omega)]
    cases fuel with
    | zero => simp [DataW.trod] at hf
    | succ fuel =>
     simp only [DataW.trod, he] at hf
     generalize hci : cs[i]'(by omega) = ci at hf
     cases ci <;> simp only [reduceCtorEq] at hf
     rename_i x
     split at hf
     ·rename_i hmax
      cases hf
      simp only [DataW.lit.injEq, Lit.string.injEq] at hbi
      exact ⟨x, by rw [List.getElem?_eq_getElem (by omega), hci], hbi, by simpa [maxLen] using hmax⟩
     ·cases hf
   clear h hm hx hxs hxl
   have fin : ∀ (ss : List (List UInt8)) (cs : List Value), ss.length = cs.length → (∀ i, i < ss.length → ∃ (x : ByteArray), cs[i]? = some (.string x) ∧ x.data.toList = ss.getD i [] ∧ x.size ≤ 9223372036854775807) → RepL w S (ss.map D.str) cs := by
    intro ss
    induction ss with
    | nil => intro cs h _; cases cs with | nil => rfl | cons _ _ => simp at h
    | cons s ss ih =>
     intro cs hl hk
     cases cs with
     | nil => simp at hl
     | cons c cs =>
      obtain ⟨x, h1, h2, h3⟩ := hk 0 (by simp)
      simp only [List.getElem?_cons_zero, Option.some.injEq] at h1
      subst h1
      exact ⟨_, _, rfl, ⟨x, rfl, by simpa using h2, h3⟩, ih cs (by simpa using hl) fun i hi => by simpa using hk (i + 1) (by simpa using hi)⟩
   exact fin ss cs (by omega) (fun i hi => key i (by omega))
  ·cases h
theorem glob_of_laid {name : String} {ss : List (List UInt8)} {rest : List (String × DataW Unit)} {g : Nat} {t e : TypeId} {n : Nat}
  (hg : P.globalNamed name = some g) (hty : (P.globals[g]?).map (·.type) = some t) (ht : P.underlying t = some (.array n e)) (he : P.underlying e = some .string) (hce : P.cellsOf e = 1) (hct : P.cellsOf t = n)
  (h : laidMet P ((name, strsData ss) :: rest) w) : RepCs w (liveS w) g 0 (ss.map D.str) := by
 obtain ⟨ps, ⟨g', t', cs, fuel, p, q, hg', ht', hvar, hd, _, _⟩, _⟩ := h
 obtain rfl := Option.some.inj (hg.symm.trans hg')
 obtain rfl := Option.some.inj (hty.symm.trans ht')
 have hr : RepL w (liveS w) (ss.map D.str) cs.toList := strs_of_laid ht he hce hct hd
 have hcell := World.var?_cell hg hvar
 refine RepCs.of_values hr fun j v hj => ?_
 have hj' : cs[j]? = some v := by simpa using hj
 have := hcell j
 rw [hj'] at this
 rw [Nat.zero_add]
 exact ⟨this, v, this⟩
theorem var_block {name : String} {g : Nat} {cs : Array Value} (hg : P.globalNamed name = some g) (h : w.var? P name = some cs) : ∃ (e : TypeId) (fr : Nat × Nat), w.heap[g]? = some (.cells cs e fr) := by
 simp only [World.var?, hg, Option.bind_some] at h
 split at h
 ·rename_i vs e fr hb; cases h; exact ⟨e, fr, hb⟩
 ·cases h
theorem strs_glob {name : String} {ss : List (List UInt8)} {rest : List (String × DataW Unit)} {g : Nat} {t e : TypeId} {n : Nat}
  (hg : P.globalNamed name = some g) (hty : (P.globals[g]?).map (·.type) = some t) (ht : P.underlying t = some (.array n e)) (he : P.underlying e = some .string) (hce : P.cellsOf e = 1) (hct : P.cellsOf t = n)
  (h : laidMet P ((name, strsData ss) :: rest) w) : RepCs w (liveS w) g 0 (ss.map D.str) ∧ ∃ (vs : Array Value) (e : TypeId) (fr : Nat × Nat), w.heap[g]? = some (.cells vs e fr) ∧ vs.size = (ss.map D.str).length := by
 refine ⟨glob_of_laid hg hty ht he hce hct h, ?_⟩
 obtain ⟨ps, ⟨g', t', cs, fuel, p, q, hg', ht', hvar, hd, _, _⟩, _⟩ := h
 obtain rfl := Option.some.inj (hg.symm.trans hg')
 obtain rfl := Option.some.inj (hty.symm.trans ht')
 have hr : RepL w (liveS w) (ss.map D.str) cs.toList := strs_of_laid ht he hce hct hd
 obtain ⟨e', fr, hb⟩ := var_block hg hvar
 exact ⟨cs, e', fr, hb, by have := RepL.length hr; simpa using this⟩
theorem tab_glob {name : String} {k : IntKind} {zs : List Int} {g : Nat} (hg : P.globalNamed name = some g) (h : Lib.TabIs P w name k zs) :
  RepCs w (liveS w) g 0 (zs.map (D.int k)) ∧ ∃ (vs : Array Value) (e : TypeId) (fr : Nat × Nat), w.heap[g]? = some (.cells vs e fr) ∧ vs.size = (zs.map (D.int k)).length := by
 obtain ⟨e, fr, hb⟩ := var_block hg h
 refine ⟨RepCs.of_values (l := zs.map fun z => Value.int k z) ?_ fun j v hj => ?_, _, e, fr, hb, by simp⟩
 ·clear h hb
  induction zs with
  | nil => rfl
  | cons z zs ih => exact ⟨_, _, rfl, rfl, ih⟩
 ·have hc : w.cell? ⟨g, 0 + j, none⟩ = some v := by
    rw [Nat.zero_add, cell_of_cells hb]
    simpa using hj
  exact ⟨hc, v, hc⟩
theorem tab_of_glob {S : Safe} {name : String} {k : IntKind} {zs : List Int} {g : Nat} (hg : P.globalNamed name = some g) (h : RepCs w S g 0 (zs.map (D.int k))) (hx : ∃ (vs : Array Value) (e : TypeId) (fr : Nat × Nat), w.heap[g]? = some (.cells vs e fr) ∧ vs.size = (zs.map (D.int k)).length) : Lib.TabIs P w name k zs := by
 obtain ⟨vs, e, fr, hb, hn⟩ := hx
 unfold Lib.TabIs
 simp only [World.var?, hg, Option.bind_some, hb, Option.some.injEq]
 obtain ⟨l, hl, hc⟩ := RepCs.values h
 have hl2 : l = zs.map fun z => Value.int k z := by
  clear hc hn h
  induction zs generalizing l with
  | nil => simpa [RepL] using hl
  | cons z zs ih =>
   obtain ⟨v, r, rfl, h1, h2⟩ := hl
   simp only [Rep] at h1
   subst h1
   rw [List.map_cons, ih r h2]
 subst hl2
 apply Array.ext
 ·simpa using hn
 ·intro i h1 h2
  simp only [List.size_toArray, List.length_map] at h2
  have := (hc i (.int k zs[i]) (by simp [h2])).1
  rw [Nat.zero_add, cell_of_cells hb, Array.getElem?_eq_getElem h1] at this
  simpa using this
theorem laidMet_tail {x : String × DataW Unit} {r : List (String × DataW Unit)} (h : laidMet P (x :: r) w) : laidMet P r w := by
 obtain ⟨ps, hv, hnd, hrows⟩ := h
 obtain ⟨n, d⟩ := x
 obtain ⟨g, t, cs, fuel, p, q, _, _, _, _, hq, rfl⟩ := hv
 exact ⟨q, hq, List.Nodup.sublist (List.sublist_append_right _ _) hnd, fun b off hm => hrows b off (List.mem_append_right _ hm)⟩
theorem globals_le (h : w.ShapedOpen P) : P.globals.size ≤ w.heap.size := by
 obtain ⟨_, h2⟩ := h
 obtain ⟨o, _, ho, _⟩ := h2 P.globals.size (Nat.le_refl _) (by simp [begin]; omega)
 exact Nat.le_of_lt (Array.getElem?_eq_some_iff.1 ho).1
theorem arg_one {r : Reach} {b : Nat} {t : TypeId} {d : TypeDesc} {v : Value} (ht : P.underlying t = some d) (hd : d = .bool ∨ d = .string ∨ (∃ k, d = .int k) ∨ ∃ e, d = .slice e) (hval : Value.okWide P w r b t v) : v.cells.toList = [v] := by
 unfold Value.okWide at hval
 rw [ht] at hval
 rcases hd with rfl | rfl | ⟨k, rfl⟩ | ⟨e, rfl⟩ <;>
  (simp only [Cell.okWide, ht, Cell.ok] at hval
   cases v <;> simp_all [Value.cells])
theorem arg_agg {r : Reach} {b : Nat} {t : TypeId} {fs : Array Field} {v : Value} (ht : P.underlying t = some (.struct fs)) (hval : Value.okWide P w r b t v) : ∃ cs, v = .agg cs ∧ v.cells = cs := by
 unfold Value.okWide at hval
 rw [ht] at hval
 obtain ⟨cs, rfl, _⟩ := hval
 exact ⟨cs, rfl, rfl⟩
end Go.Abs
end
section
set_option linter.unusedSimpArgs false
set_option linter.unusedVariables false
set_option linter.unusedSectionVars false
namespace Go.Abs
open Go.RowKit Go.ChangeShapes
variable {H : Type} {enc : TypeId × Value → H} {P : Program} {w : World} {bulk : DataW H → Nat} {all : List (DataW H) → Nat}
theorem reads_zero {t : TypeId} {α : Type} {f : α → List D} {sz : α → Nat} : ReadsAt enc P w bulk 0 t f sz := fun cs d ps h => by cases h
theorem reads_slice' (hb : BulkOk bulk all) {α : Type} {f : α → List D} {sz : α → Nat} {t e : TypeId} (ht : P.underlying t = some (.slice e)) (hk : P.cellsOf e ≠ 0) (hf : ∀ x, (f x).length = P.cellsOf e) (he : ∀ n, ReadsAt enc P w bulk n e f sz) :
  ∀ n, ReadsAt enc P w bulk n t (fun l : List α => [.lst (l.map f)]) (fun l => (l.map sz).sum + 1)
 | 0 => reads_zero
 | n + 1 => reads_slice hb ht hk hf (he n)
theorem reads_struct' (hb : BulkOk bulk all) {t : TypeId} {fs : Array Field} {α : Type} {f : α → List D} {sz : α → Nat} (ht : P.underlying t = some (.struct fs)) (hk : ∀ x, (f x).length = P.cellsOf t) (h : ∀ n, ReadsF enc P w bulk all n fs.toList 0 f sz) :
  ∀ n, ReadsAt enc P w bulk n t f (fun x => sz x + 1)
 | 0 => reads_zero
 | n + 1 => reads_struct hb ht hk (h n)
theorem reads_pred (hb : BulkOk bulk all) {t s to tn ti : TypeId} {n0 n1 n2 n3 g0 g1 g2 g3 p0 p1 p2 p3 : String} {b0 b1 b2 b3 : Nat} {e0 e1 e2 e3 : Bool}
  (ht : P.underlying t = some (.struct #[⟨n0, to, 0, e0, g0, p0, b0⟩, ⟨n1, tn, 1, e1, g1, p1, b1⟩, ⟨n2, ti, 2, e2, g2, p2, b2⟩, ⟨n3, s, 3, e3, g3, p3, b3⟩]))
  (ho : P.underlying to = some (.int .i64)) (hn : P.underlying tn = some .string) (hi : P.underlying ti = some (.int .i64)) (hs : P.underlying s = some (.slice t))
  (ct : P.cellsOf t = 4) (co : P.cellsOf to = 1) (cn : P.cellsOf tn = 1) (ci : P.cellsOf ti = 1) (cs : P.cellsOf s = 1) : ∀ n, ReadsAt enc P w bulk n t Pred.cells Pred.sz := by
 intro n
 induction n using Nat.strongRecOn with | _ n ih =>
 cases n with
 | zero => exact reads_zero
 | succ n =>
  have hk : ReadsAt enc P w bulk n s (fun l : List Pred => [.lst (l.map Pred.cells)]) (fun l => (l.map Pred.sz).sum + 1) := by
   cases n with
   | zero => exact reads_zero
   | succ m => exact reads_slice hb hs (by rw [ct]; decide) (fun x => by rw [ct]; exact Pred.cells_length x) (ih m (by omega))
  have hF := reads_cons hb (n := n) (fd := ⟨n0, to, 0, e0, g0, p0, b0⟩) (off := 0) rfl co (fun _ => rfl) (reads_int hb ho) (reads_cons hb (fd := ⟨n1, tn, 1, e1, g1, p1, b1⟩) rfl cn (fun _ => rfl) (reads_str hb hn) (reads_cons hb (fd := ⟨n2, ti, 2, e2, g2, p2, b2⟩) rfl ci (fun _ => rfl) (reads_int hb hi) (reads_cons hb (fd := ⟨n3, s, 3, e3, g3, p3, b3⟩) rfl cs (fun _ => rfl) hk reads_nil)))
  have h := reads_struct hb ht (fun x => by rw [ct]; rfl) hF
  refine reads_map h (fun x => Pred.mk x.1 x.2.1 x.2.2.1 x.2.2.2.1) (fun x => ?_) (fun x => ?_)
  ·rw [Pred.cells_eq]; rfl
  ·show Pred.sz (Pred.mk x.1 x.2.1 x.2.2.1 x.2.2.2.1) ≤ _
   simp only [Pred.sz, Pred.szs_eq]
   exact Nat.le_refl _
theorem ReadsF.two {n off : Nat} {fs : List Field} {α β : Type} {f : α → List D} {sz : α → Nat} {g : β → List D} {sz' : β → Nat} (h : ReadsF enc P w bulk all n fs off f sz) (φ : α → β) (hf : ∀ x, g (φ x) = f x) (hs : ∀ x, sz' (φ x) ≤ sz x) : ReadsF enc P w bulk all n fs off g sz' := fun cs xs hr => by
 obtain ⟨x, h1, h2⟩ := h cs xs hr
 exact ⟨φ x, by rw [hf]; exact h1, Nat.le_trans (hs x) h2⟩
theorem door_calls {G : Nat → Option (List D)} {f : FuncId} {args : Array Value} {cargs : List CV} (hev : Ev P G f cargs (.one (.bool true))) (hg : GlobOk P G w (liveS w)) (ha : RepCL w (liveS w) cargs args.toList) :
  Calls P f args w fun e w' => e = .returned (.bool true) ∧ Below w.heap.size w w' := by
 refine (hev.2 w (liveS w) args (fun b o h => h) hg ha).mono fun e w' h => ?_
 obtain ⟨v, S', he, hr, hb, _⟩ := h
 have : v = .bool true := hr
 subst this
 exact ⟨he, hb⟩
theorem repCL_cons {c : CV} {v : Value} {cs : List CV} {vs : List Value} (h : RepC w (liveS w) c v) (hs : RepCL w (liveS w) cs vs) : RepCL w (liveS w) (c :: cs) (v :: vs) := ⟨v, vs, rfl, h, hs⟩
theorem rep_one {α : Type} {r : Reach} {b n : Nat} {t : TypeId} {dsc : TypeDesc} {v : Value} {d : DataW H} {ps : List MemPlace} {f : α → D} {sz : α → Nat} (ht : P.underlying t = some dsc) (hd : dsc = .bool ∨ dsc = .string ∨ (∃ k, dsc = .int k) ∨ ∃ e, dsc = .slice e) (hval : Value.okWide P w r b t v)
  (hr : ReadsAt enc P w bulk n t (fun x => [f x]) sz) (h : DataW.trod enc P w 0 (fun _ => true) true n t v.cells.toList = some (d, ps)) : ∃ x : α, RepC w (liveS w) (.one (f x)) v ∧ sz x ≤ bulk d := by
 obtain ⟨x, h1, h2⟩ := hr _ _ _ h
 rw [arg_one ht hd hval] at h1
 obtain ⟨v', r', e, h3, _⟩ := h1
 cases e
 exact ⟨x, h3, h2⟩
theorem rep_agg {α : Type} {r : Reach} {b n : Nat} {t : TypeId} {fs : Array Field} {v : Value} {d : DataW H} {ps : List MemPlace} {f : α → List D} {sz : α → Nat} (ht : P.underlying t = some (.struct fs)) (hval : Value.okWide P w r b t v)
  (hr : ReadsAt enc P w bulk n t f sz) (h : DataW.trod enc P w 0 (fun _ => true) true n t v.cells.toList = some (d, ps)) : ∃ x : α, RepC w (liveS w) (.agg (f x)) v ∧ sz x ≤ bulk d := by
 obtain ⟨x, h1, h2⟩ := hr _ _ _ h
 obtain ⟨cs, rfl, hc⟩ := arg_agg ht hval
 rw [hc] at h1
 exact ⟨x, ⟨cs, rfl, h1⟩, h2⟩
end Go.Abs
end
section
set_option linter.unusedSimpArgs false
set_option linter.unusedVariables false
set_option linter.unusedSectionVars false
namespace Go.Abs
open Go.RowKit Go.ChangeShapes
variable {H : Type} {enc : TypeId × Value → H} {P : Program} {w : World} {bulk : DataW H → Nat} {all : List (DataW H) → Nat}
def Cells (n : Nat) : Type := {l : List D // l.length = n}
def anyC {n : Nat} (x : Cells n) : List D := x.1
def flatFields (P : Program) (ts : List TypeId) : Nat → List Field → Option Nat
 | off, [] => some off
 | off, f :: fs => if f.offset == off && ts.contains f.type then flatFields P ts (off + P.cellsOf f.type) fs else none
def plainT (P : Program) (ts : List TypeId) (t : TypeId) : Bool := match P.underlying t with
 | some (.int _) => P.cellsOf t == 1
 | some .bool => P.cellsOf t == 1
 | some .string => P.cellsOf t == 1
 | some (.slice e) => P.cellsOf t == 1 && P.cellsOf e != 0 && ts.contains e
 | some (.struct fs) => flatFields P ts 0 fs.toList == some (P.cellsOf t)
 | _ => false
theorem reads_fields (hb : BulkOk bulk all) {ts : List TypeId} {n : Nat} (ih : ∀ t ∈ ts, ReadsAt enc P w bulk n t (anyC (n := P.cellsOf t)) (fun _ => 0)) :
  ∀ (fs : List Field) (off k : Nat), flatFields P ts off fs = some k → off ≤ k ∧ ReadsF enc P w bulk all n fs off (anyC (n := k - off)) (fun _ => 0)
 | [], off, k, h => by
  simp only [flatFields, Option.some.injEq] at h
  subst h
  refine ⟨Nat.le_refl _, fun cs xs hr => ?_⟩
  obtain ⟨x, h1, h2⟩ := reads_nil (enc := enc) (P := P) (w := w) (bulk := bulk) (all := all) cs xs hr
  exact ⟨⟨[], by simp⟩, h1, Nat.zero_le _⟩
 | f :: fs, off, k, h => by
  simp only [flatFields] at h
  split at h
  ·rename_i hc
   simp only [Bool.and_eq_true, beq_iff_eq, List.contains_iff_mem] at hc
   obtain ⟨h1, h2⟩ := reads_fields hb ih fs _ _ h
   refine ⟨by omega, ?_⟩
   have hF := reads_cons hb (fd := f) (fs := fs) hc.1 rfl (fun x => x.2) (ih f.type hc.2) h2
   refine hF.two (fun x => ⟨x.1.1 ++ x.2.1, by rw [List.length_append, x.1.2, x.2.2]; omega⟩) (fun _ => rfl) (fun _ => Nat.zero_le _)
  ·cases h
theorem reads_any (hb : BulkOk bulk all) {ts : List TypeId} (hts : ts.all (plainT P ts) = true) : ∀ n, ∀ t ∈ ts, ReadsAt enc P w bulk n t (anyC (n := P.cellsOf t)) (fun _ => 0)
 | 0, _, _ => reads_zero
 | n + 1, t, ht => by
  have ih := reads_any hb hts n
  have hp := List.all_eq_true.1 hts t ht
  unfold plainT at hp
  split at hp
  ·rename_i k hu
   have hp : P.cellsOf t = 1 := by simpa using hp
   exact reads_map (reads_int hb hu) (fun x => ⟨[.int k x], by rw [hp]; rfl⟩) (fun _ => rfl) (fun _ => Nat.zero_le _)
  ·rename_i hu
   have hp : P.cellsOf t = 1 := by simpa using hp
   exact reads_map (reads_bool hb hu) (fun x => ⟨[.bool x], by rw [hp]; rfl⟩) (fun _ => rfl) (fun _ => Nat.zero_le _)
  ·rename_i hu
   have hp : P.cellsOf t = 1 := by simpa using hp
   exact reads_map (reads_str hb hu) (fun x => ⟨[.str x], by rw [hp]; rfl⟩) (fun _ => rfl) (fun _ => Nat.zero_le _)
  ·rename_i e hu
   simp only [Bool.and_eq_true, beq_iff_eq, bne_iff_ne, ne_eq, List.contains_iff_mem] at hp
   obtain ⟨⟨h1, h2⟩, h3⟩ := hp
   exact reads_map (reads_slice hb hu h2 (fun x => x.2) (ih e h3)) (fun l => ⟨[.lst (l.map anyC)], by rw [h1]; rfl⟩) (fun _ => rfl) (fun _ => Nat.zero_le _)
  ·rename_i fs hu
   simp only [beq_iff_eq] at hp
   obtain ⟨_, hF⟩ := reads_fields (enc := enc) (w := w) hb ih fs.toList 0 _ hp
   exact reads_map (reads_struct hb hu (fun x => x.2) hF) (fun x => x) (fun _ => rfl) (fun _ => Nat.zero_le _)
  ·cases hp
theorem reads_one (hb : BulkOk bulk all) {ts : List TypeId} (hts : ts.all (plainT P ts) = true) {t : TypeId} (ht : t ∈ ts) (hc : P.cellsOf t = 1) (n : Nat) : ReadsAt enc P w bulk n t (fun x : D => [x]) (fun _ => 0) :=
 reads_map (reads_any hb hts n t ht) (fun x => x.1.headD (.bool false)) (fun x => by
  obtain ⟨l, hl⟩ := x
  rw [hc] at hl
  match l, hl with
  | [y], _ => rfl) (fun _ => Nat.zero_le _)
end Go.Abs
end
section
set_option linter.unusedSimpArgs false
set_option linter.unusedVariables false
set_option linter.unusedSectionVars false
namespace Go.Abs
open Go.RowKit Go.ChangeShapes
variable {H : Type} {enc : TypeId × Value → H} {P : Program} {w : World} {bulk : DataW H → Nat} {all : List (DataW H) → Nat}
theorem reads_rec2 (hb : BulkOk bulk all) {α0 α1 : Type} {f0 : α0 → List D} {s0 : α0 → Nat} {f1 : α1 → List D} {s1 : α1 → Nat} {n : Nat} {t t0 t1 : TypeId} {k0 o0 b0 k1 o1 b1 : Nat} {n0 g0 p0 n1 g1 p1 : String} {e0 e1 : Bool}
  (ht : P.underlying t = some (.struct #[⟨n0, t0, o0, e0, g0, p0, b0⟩, ⟨n1, t1, o1, e1, g1, p1, b1⟩]))
  (ct : P.cellsOf t = k0 + k1) (c0 : P.cellsOf t0 = k0) (l0 : ∀ x, (f0 x).length = k0) (h0 : ReadsAt enc P w bulk n t0 f0 s0) (c1 : P.cellsOf t1 = k1) (l1 : ∀ x, (f1 x).length = k1) (h1 : ReadsAt enc P w bulk n t1 f1 s1) (q0 : o0 = 0 := by rfl) (q1 : o1 = 0+k0 := by rfl) :
  ReadsAt enc P w bulk (n + 1) t (fun x : α0 × α1 × Unit => f0 (x.1) ++ (f1 (x.2.1) ++ [])) (fun x => s0 (x.1) + (s1 (x.2.1) + 0) + 1) := by
 have hF := reads_cons (enc := enc) (w := w) hb (n := n) (fd := ⟨n0, t0, o0, e0, g0, p0, b0⟩) q0 c0 l0 h0 (reads_cons (enc := enc) (w := w) hb (n := n) (fd := ⟨n1, t1, o1, e1, g1, p1, b1⟩) q1 c1 l1 h1 (reads_nil (enc := enc) (P := P) (w := w) (bulk := bulk) (all := all) (n := n)))
 exact reads_struct hb ht (fun x => by rw [ct]; simp only [List.length_append, List.length_nil, l0, l1]; omega) hF
theorem reads_rec3 (hb : BulkOk bulk all) {α0 α1 α2 : Type} {f0 : α0 → List D} {s0 : α0 → Nat} {f1 : α1 → List D} {s1 : α1 → Nat} {f2 : α2 → List D} {s2 : α2 → Nat} {n : Nat} {t t0 t1 t2 : TypeId} {k0 o0 b0 k1 o1 b1 k2 o2 b2 : Nat} {n0 g0 p0 n1 g1 p1 n2 g2 p2 : String} {e0 e1 e2 : Bool}
  (ht : P.underlying t = some (.struct #[⟨n0, t0, o0, e0, g0, p0, b0⟩, ⟨n1, t1, o1, e1, g1, p1, b1⟩, ⟨n2, t2, o2, e2, g2, p2, b2⟩]))
  (ct : P.cellsOf t = k0 + k1 + k2) (c0 : P.cellsOf t0 = k0) (l0 : ∀ x, (f0 x).length = k0) (h0 : ReadsAt enc P w bulk n t0 f0 s0) (c1 : P.cellsOf t1 = k1) (l1 : ∀ x, (f1 x).length = k1) (h1 : ReadsAt enc P w bulk n t1 f1 s1) (c2 : P.cellsOf t2 = k2) (l2 : ∀ x, (f2 x).length = k2) (h2 : ReadsAt enc P w bulk n t2 f2 s2) (q0 : o0 = 0 := by rfl) (q1 : o1 = 0+k0 := by rfl) (q2 : o2 = 0+k0+k1 := by rfl) :
  ReadsAt enc P w bulk (n + 1) t (fun x : α0 × α1 × α2 × Unit => f0 (x.1) ++ (f1 (x.2.1) ++ (f2 (x.2.2.1) ++ []))) (fun x => s0 (x.1) + (s1 (x.2.1) + (s2 (x.2.2.1) + 0)) + 1) := by
 have hF := reads_cons (enc := enc) (w := w) hb (n := n) (fd := ⟨n0, t0, o0, e0, g0, p0, b0⟩) q0 c0 l0 h0 (reads_cons (enc := enc) (w := w) hb (n := n) (fd := ⟨n1, t1, o1, e1, g1, p1, b1⟩) q1 c1 l1 h1 (reads_cons (enc := enc) (w := w) hb (n := n) (fd := ⟨n2, t2, o2, e2, g2, p2, b2⟩) q2 c2 l2 h2 (reads_nil (enc := enc) (P := P) (w := w) (bulk := bulk) (all := all) (n := n))))
 exact reads_struct hb ht (fun x => by rw [ct]; simp only [List.length_append, List.length_nil, l0, l1, l2]; omega) hF
theorem reads_rec4 (hb : BulkOk bulk all) {α0 α1 α2 α3 : Type} {f0 : α0 → List D} {s0 : α0 → Nat} {f1 : α1 → List D} {s1 : α1 → Nat} {f2 : α2 → List D} {s2 : α2 → Nat} {f3 : α3 → List D} {s3 : α3 → Nat} {n : Nat} {t t0 t1 t2 t3 : TypeId} {k0 o0 b0 k1 o1 b1 k2 o2 b2 k3 o3 b3 : Nat} {n0 g0 p0 n1 g1 p1 n2 g2 p2 n3 g3 p3 : String} {e0 e1 e2 e3 : Bool}
  (ht : P.underlying t = some (.struct #[⟨n0, t0, o0, e0, g0, p0, b0⟩, ⟨n1, t1, o1, e1, g1, p1, b1⟩, ⟨n2, t2, o2, e2, g2, p2, b2⟩, ⟨n3, t3, o3, e3, g3, p3, b3⟩]))
  (ct : P.cellsOf t = k0 + k1 + k2 + k3) (c0 : P.cellsOf t0 = k0) (l0 : ∀ x, (f0 x).length = k0) (h0 : ReadsAt enc P w bulk n t0 f0 s0) (c1 : P.cellsOf t1 = k1) (l1 : ∀ x, (f1 x).length = k1) (h1 : ReadsAt enc P w bulk n t1 f1 s1) (c2 : P.cellsOf t2 = k2) (l2 : ∀ x, (f2 x).length = k2) (h2 : ReadsAt enc P w bulk n t2 f2 s2) (c3 : P.cellsOf t3 = k3) (l3 : ∀ x, (f3 x).length = k3) (h3 : ReadsAt enc P w bulk n t3 f3 s3) (q0 : o0 = 0 := by rfl) (q1 : o1 = 0+k0 := by rfl) (q2 : o2 = 0+k0+k1 := by rfl) (q3 : o3 = 0+k0+k1+k2 := by rfl) :
  ReadsAt enc P w bulk (n + 1) t (fun x : α0 × α1 × α2 × α3 × Unit => f0 (x.1) ++ (f1 (x.2.1) ++ (f2 (x.2.2.1) ++ (f3 (x.2.2.2.1) ++ [])))) (fun x => s0 (x.1) + (s1 (x.2.1) + (s2 (x.2.2.1) + (s3 (x.2.2.2.1) + 0))) + 1) := by
 have hF := reads_cons (enc := enc) (w := w) hb (n := n) (fd := ⟨n0, t0, o0, e0, g0, p0, b0⟩) q0 c0 l0 h0 (reads_cons (enc := enc) (w := w) hb (n := n) (fd := ⟨n1, t1, o1, e1, g1, p1, b1⟩) q1 c1 l1 h1 (reads_cons (enc := enc) (w := w) hb (n := n) (fd := ⟨n2, t2, o2, e2, g2, p2, b2⟩) q2 c2 l2 h2 (reads_cons (enc := enc) (w := w) hb (n := n) (fd := ⟨n3, t3, o3, e3, g3, p3, b3⟩) q3 c3 l3 h3 (reads_nil (enc := enc) (P := P) (w := w) (bulk := bulk) (all := all) (n := n)))))
 exact reads_struct hb ht (fun x => by rw [ct]; simp only [List.length_append, List.length_nil, l0, l1, l2, l3]; omega) hF
theorem reads_rec5 (hb : BulkOk bulk all) {α0 α1 α2 α3 α4 : Type} {f0 : α0 → List D} {s0 : α0 → Nat} {f1 : α1 → List D} {s1 : α1 → Nat} {f2 : α2 → List D} {s2 : α2 → Nat} {f3 : α3 → List D} {s3 : α3 → Nat} {f4 : α4 → List D} {s4 : α4 → Nat} {n : Nat} {t t0 t1 t2 t3 t4 : TypeId} {k0 o0 b0 k1 o1 b1 k2 o2 b2 k3 o3 b3 k4 o4 b4 : Nat} {n0 g0 p0 n1 g1 p1 n2 g2 p2 n3 g3 p3 n4 g4 p4 : String} {e0 e1 e2 e3 e4 : Bool}
  (ht : P.underlying t = some (.struct #[⟨n0, t0, o0, e0, g0, p0, b0⟩, ⟨n1, t1, o1, e1, g1, p1, b1⟩, ⟨n2, t2, o2, e2, g2, p2, b2⟩, ⟨n3, t3, o3, e3, g3, p3, b3⟩, ⟨n4, t4, o4, e4, g4, p4, b4⟩]))
  (ct : P.cellsOf t = k0 + k1 + k2 + k3 + k4) (c0 : P.cellsOf t0 = k0) (l0 : ∀ x, (f0 x).length = k0) (h0 : ReadsAt enc P w bulk n t0 f0 s0) (c1 : P.cellsOf t1 = k1) (l1 : ∀ x, (f1 x).length = k1) (h1 : ReadsAt enc P w bulk n t1 f1 s1) (c2 : P.cellsOf t2 = k2) (l2 : ∀ x, (f2 x).length = k2) (h2 : ReadsAt enc P w bulk n t2 f2 s2) (c3 : P.cellsOf t3 = k3) (l3 : ∀ x, (f3 x).length = k3) (h3 : ReadsAt enc P w bulk n t3 f3 s3) (c4 : P.cellsOf t4 = k4) (l4 : ∀ x, (f4 x).length = k4) (h4 : ReadsAt enc P w bulk n t4 f4 s4) (q0 : o0 = 0 := by rfl) (q1 : o1 = 0+k0 := by rfl) (q2 : o2 = 0+k0+k1 := by rfl) (q3 : o3 = 0+k0+k1+k2 := by rfl) (q4 : o4 = 0+k0+k1+k2+k3 := by rfl) :
  ReadsAt enc P w bulk (n + 1) t (fun x : α0 × α1 × α2 × α3 × α4 × Unit => f0 (x.1) ++ (f1 (x.2.1) ++ (f2 (x.2.2.1) ++ (f3 (x.2.2.2.1) ++ (f4 (x.2.2.2.2.1) ++ []))))) (fun x => s0 (x.1) + (s1 (x.2.1) + (s2 (x.2.2.1) + (s3 (x.2.2.2.1) + (s4 (x.2.2.2.2.1) + 0)))) + 1) := by
 have hF := reads_cons (enc := enc) (w := w) hb (n := n) (fd := ⟨n0, t0, o0, e0, g0, p0, b0⟩) q0 c0 l0 h0 (reads_cons (enc := enc) (w := w) hb (n := n) (fd := ⟨n1, t1, o1, e1, g1, p1, b1⟩) q1 c1 l1 h1 (reads_cons (enc := enc) (w := w) hb (n := n) (fd := ⟨n2, t2, o2, e2, g2, p2, b2⟩) q2 c2 l2 h2 (reads_cons (enc := enc) (w := w) hb (n := n) (fd := ⟨n3, t3, o3, e3, g3, p3, b3⟩) q3 c3 l3 h3 (reads_cons (enc := enc) (w := w) hb (n := n) (fd := ⟨n4, t4, o4, e4, g4, p4, b4⟩) q4 c4 l4 h4 (reads_nil (enc := enc) (P := P) (w := w) (bulk := bulk) (all := all) (n := n))))))
 exact reads_struct hb ht (fun x => by rw [ct]; simp only [List.length_append, List.length_nil, l0, l1, l2, l3, l4]; omega) hF
theorem reads_rec6 (hb : BulkOk bulk all) {α0 α1 α2 α3 α4 α5 : Type} {f0 : α0 → List D} {s0 : α0 → Nat} {f1 : α1 → List D} {s1 : α1 → Nat} {f2 : α2 → List D} {s2 : α2 → Nat} {f3 : α3 → List D} {s3 : α3 → Nat} {f4 : α4 → List D} {s4 : α4 → Nat} {f5 : α5 → List D} {s5 : α5 → Nat} {n : Nat} {t t0 t1 t2 t3 t4 t5 : TypeId} {k0 o0 b0 k1 o1 b1 k2 o2 b2 k3 o3 b3 k4 o4 b4 k5 o5 b5 : Nat} {n0 g0 p0 n1 g1 p1 n2 g2 p2 n3 g3 p3 n4 g4 p4 n5 g5 p5 : String} {e0 e1 e2 e3 e4 e5 : Bool}
  (ht : P.underlying t = some (.struct #[⟨n0, t0, o0, e0, g0, p0, b0⟩, ⟨n1, t1, o1, e1, g1, p1, b1⟩, ⟨n2, t2, o2, e2, g2, p2, b2⟩, ⟨n3, t3, o3, e3, g3, p3, b3⟩, ⟨n4, t4, o4, e4, g4, p4, b4⟩, ⟨n5, t5, o5, e5, g5, p5, b5⟩]))
  (ct : P.cellsOf t = k0 + k1 + k2 + k3 + k4 + k5) (c0 : P.cellsOf t0 = k0) (l0 : ∀ x, (f0 x).length = k0) (h0 : ReadsAt enc P w bulk n t0 f0 s0) (c1 : P.cellsOf t1 = k1) (l1 : ∀ x, (f1 x).length = k1) (h1 : ReadsAt enc P w bulk n t1 f1 s1) (c2 : P.cellsOf t2 = k2) (l2 : ∀ x, (f2 x).length = k2) (h2 : ReadsAt enc P w bulk n t2 f2 s2) (c3 : P.cellsOf t3 = k3) (l3 : ∀ x, (f3 x).length = k3) (h3 : ReadsAt enc P w bulk n t3 f3 s3) (c4 : P.cellsOf t4 = k4) (l4 : ∀ x, (f4 x).length = k4) (h4 : ReadsAt enc P w bulk n t4 f4 s4) (c5 : P.cellsOf t5 = k5) (l5 : ∀ x, (f5 x).length = k5) (h5 : ReadsAt enc P w bulk n t5 f5 s5) (q0 : o0 = 0 := by rfl) (q1 : o1 = 0+k0 := by rfl) (q2 : o2 = 0+k0+k1 := by rfl) (q3 : o3 = 0+k0+k1+k2 := by rfl) (q4 : o4 = 0+k0+k1+k2+k3 := by rfl) (q5 : o5 = 0+k0+k1+k2+k3+k4 := by rfl) :
  ReadsAt enc P w bulk (n + 1) t (fun x : α0 × α1 × α2 × α3 × α4 × α5 × Unit => f0 (x.1) ++ (f1 (x.2.1) ++ (f2 (x.2.2.1) ++ (f3 (x.2.2.2.1) ++ (f4 (x.2.2.2.2.1) ++ (f5 (x.2.2.2.2.2.1) ++ [])))))) (fun x => s0 (x.1) + (s1 (x.2.1) + (s2 (x.2.2.1) + (s3 (x.2.2.2.1) + (s4 (x.2.2.2.2.1) + (s5 (x.2.2.2.2.2.1) + 0))))) + 1) := by
 have hF := reads_cons (enc := enc) (w := w) hb (n := n) (fd := ⟨n0, t0, o0, e0, g0, p0, b0⟩) q0 c0 l0 h0 (reads_cons (enc := enc) (w := w) hb (n := n) (fd := ⟨n1, t1, o1, e1, g1, p1, b1⟩) q1 c1 l1 h1 (reads_cons (enc := enc) (w := w) hb (n := n) (fd := ⟨n2, t2, o2, e2, g2, p2, b2⟩) q2 c2 l2 h2 (reads_cons (enc := enc) (w := w) hb (n := n) (fd := ⟨n3, t3, o3, e3, g3, p3, b3⟩) q3 c3 l3 h3 (reads_cons (enc := enc) (w := w) hb (n := n) (fd := ⟨n4, t4, o4, e4, g4, p4, b4⟩) q4 c4 l4 h4 (reads_cons (enc := enc) (w := w) hb (n := n) (fd := ⟨n5, t5, o5, e5, g5, p5, b5⟩) q5 c5 l5 h5 (reads_nil (enc := enc) (P := P) (w := w) (bulk := bulk) (all := all) (n := n)))))))
 exact reads_struct hb ht (fun x => by rw [ct]; simp only [List.length_append, List.length_nil, l0, l1, l2, l3, l4, l5]; omega) hF
theorem reads_rec7 (hb : BulkOk bulk all) {α0 α1 α2 α3 α4 α5 α6 : Type} {f0 : α0 → List D} {s0 : α0 → Nat} {f1 : α1 → List D} {s1 : α1 → Nat} {f2 : α2 → List D} {s2 : α2 → Nat} {f3 : α3 → List D} {s3 : α3 → Nat} {f4 : α4 → List D} {s4 : α4 → Nat} {f5 : α5 → List D} {s5 : α5 → Nat} {f6 : α6 → List D} {s6 : α6 → Nat} {n : Nat} {t t0 t1 t2 t3 t4 t5 t6 : TypeId} {k0 o0 b0 k1 o1 b1 k2 o2 b2 k3 o3 b3 k4 o4 b4 k5 o5 b5 k6 o6 b6 : Nat} {n0 g0 p0 n1 g1 p1 n2 g2 p2 n3 g3 p3 n4 g4 p4 n5 g5 p5 n6 g6 p6 : String} {e0 e1 e2 e3 e4 e5 e6 : Bool}
  (ht : P.underlying t = some (.struct #[⟨n0, t0, o0, e0, g0, p0, b0⟩, ⟨n1, t1, o1, e1, g1, p1, b1⟩, ⟨n2, t2, o2, e2, g2, p2, b2⟩, ⟨n3, t3, o3, e3, g3, p3, b3⟩, ⟨n4, t4, o4, e4, g4, p4, b4⟩, ⟨n5, t5, o5, e5, g5, p5, b5⟩, ⟨n6, t6, o6, e6, g6, p6, b6⟩]))
  (ct : P.cellsOf t = k0 + k1 + k2 + k3 + k4 + k5 + k6) (c0 : P.cellsOf t0 = k0) (l0 : ∀ x, (f0 x).length = k0) (h0 : ReadsAt enc P w bulk n t0 f0 s0) (c1 : P.cellsOf t1 = k1) (l1 : ∀ x, (f1 x).length = k1) (h1 : ReadsAt enc P w bulk n t1 f1 s1) (c2 : P.cellsOf t2 = k2) (l2 : ∀ x, (f2 x).length = k2) (h2 : ReadsAt enc P w bulk n t2 f2 s2) (c3 : P.cellsOf t3 = k3) (l3 : ∀ x, (f3 x).length = k3) (h3 : ReadsAt enc P w bulk n t3 f3 s3) (c4 : P.cellsOf t4 = k4) (l4 : ∀ x, (f4 x).length = k4) (h4 : ReadsAt enc P w bulk n t4 f4 s4) (c5 : P.cellsOf t5 = k5) (l5 : ∀ x, (f5 x).length = k5) (h5 : ReadsAt enc P w bulk n t5 f5 s5) (c6 : P.cellsOf t6 = k6) (l6 : ∀ x, (f6 x).length = k6) (h6 : ReadsAt enc P w bulk n t6 f6 s6) (q0 : o0 = 0 := by rfl) (q1 : o1 = 0+k0 := by rfl) (q2 : o2 = 0+k0+k1 := by rfl) (q3 : o3 = 0+k0+k1+k2 := by rfl) (q4 : o4 = 0+k0+k1+k2+k3 := by rfl) (q5 : o5 = 0+k0+k1+k2+k3+k4 := by rfl) (q6 : o6 = 0+k0+k1+k2+k3+k4+k5 := by rfl) :
  ReadsAt enc P w bulk (n + 1) t (fun x : α0 × α1 × α2 × α3 × α4 × α5 × α6 × Unit => f0 (x.1) ++ (f1 (x.2.1) ++ (f2 (x.2.2.1) ++ (f3 (x.2.2.2.1) ++ (f4 (x.2.2.2.2.1) ++ (f5 (x.2.2.2.2.2.1) ++ (f6 (x.2.2.2.2.2.2.1) ++ []))))))) (fun x => s0 (x.1) + (s1 (x.2.1) + (s2 (x.2.2.1) + (s3 (x.2.2.2.1) + (s4 (x.2.2.2.2.1) + (s5 (x.2.2.2.2.2.1) + (s6 (x.2.2.2.2.2.2.1) + 0)))))) + 1) := by
 have hF := reads_cons (enc := enc) (w := w) hb (n := n) (fd := ⟨n0, t0, o0, e0, g0, p0, b0⟩) q0 c0 l0 h0 (reads_cons (enc := enc) (w := w) hb (n := n) (fd := ⟨n1, t1, o1, e1, g1, p1, b1⟩) q1 c1 l1 h1 (reads_cons (enc := enc) (w := w) hb (n := n) (fd := ⟨n2, t2, o2, e2, g2, p2, b2⟩) q2 c2 l2 h2 (reads_cons (enc := enc) (w := w) hb (n := n) (fd := ⟨n3, t3, o3, e3, g3, p3, b3⟩) q3 c3 l3 h3 (reads_cons (enc := enc) (w := w) hb (n := n) (fd := ⟨n4, t4, o4, e4, g4, p4, b4⟩) q4 c4 l4 h4 (reads_cons (enc := enc) (w := w) hb (n := n) (fd := ⟨n5, t5, o5, e5, g5, p5, b5⟩) q5 c5 l5 h5 (reads_cons (enc := enc) (w := w) hb (n := n) (fd := ⟨n6, t6, o6, e6, g6, p6, b6⟩) q6 c6 l6 h6 (reads_nil (enc := enc) (P := P) (w := w) (bulk := bulk) (all := all) (n := n))))))))
 exact reads_struct hb ht (fun x => by rw [ct]; simp only [List.length_append, List.length_nil, l0, l1, l2, l3, l4, l5, l6]; omega) hF
end Go.Abs
end
section
set_option linter.unusedSimpArgs false
set_option linter.unusedVariables false
set_option linter.unusedSectionVars false
namespace Go.Abs.Seat
open Go Go.Abs Go.Proofs
def tl0 : List (Nat × Ty) := [(1, .cell (.d .nilf)), (2, .cell (0:Int)), (3, .cell (0:Int)), (4, .cell (.d (.bool false))), (5, .cell (.d (.int .u8 0))), (6, .cell (.d (.int .u8 0))), (7, .agg [(0:Int), (0:Int), .d (.bool false), .d (.int .u8 0)] [(0, 1, false), (1, 1, false), (2, 1, false), (3, 1, false)]), (8, .agg [(0:Int), (0:Int), .d (.bool false), .d (.int .u8 0)] [(0, 1, false), (1, 1, false), (2, 1, false), (3, 1, false)]), (9, .cell (.d (.str []))), (10, .cell (.d (.str []))), (11, .cell (.d (.str []))), (12, .cell (.d (.int .u64 0))), (15, .cell (.d .nilp)), (16, .cell (.d .nilp)), (17, .cell (.d .nilp))]
def tl1 : List (Nat × Ty) := [(18, .agg [.d .nilp] [(0, 1, false)]), (19, .agg [.d .nilp] [(0, 1, false)]), (21, .cell (.d (.int .i32 0))), (22, .slice 4 56), (23, .cell (.d .nilf)), (24, .cell (.d .nilf)), (25, .cell (.d .nilf)), (26, .cell (0:Int)), (27, .agg [(0:Int), .d (.str []), (0:Int), .full []] [(0, 1, false), (1, 1, false), (2, 1, false), (3, 1, false)]), (28, .agg [(0:Int), .d (.str []), (0:Int), .full []] [(0, 1, false), (1, 1, false), (2, 1, false), (3, 1, false)]), (29, .cell (.d .nilf)), (30, .cell (.d .nilf)), (31, .cell (.d .nilf)), (32, .slice 1 16), (33, .slice 2 32)]
def tl2 : List (Nat × Ty) := [(34, .slice 2 32), (35, .slice 10 152), (36, .cell (0:Int)), (37, .slice 9 152), (38, .agg [(0:Int), .d (.str []), .full [], .full [], (0:Int), .d (.str []), (0:Int), .full [], .full []] [(0, 1, false), (1, 1, false), (2, 1, false), (3, 1, false), (4, 4, true), (8, 1, false)]), (39, .agg [(0:Int), .d (.str []), .full [], .full [], (0:Int), .d (.str []), (0:Int), .full [], .full []] [(0, 1, false), (1, 1, false), (2, 1, false), (3, 1, false), (4, 4, true), (8, 1, false)]), (40, .agg [.full [], .full [], .full [], .full [], (0:Int), .d (.str []), .full [], .full [], (0:Int), .d (.str []), (0:Int), .full [], .full [], .full []] [(0, 1, false), (1, 1, false), (2, 1, false), (3, 1, false), (4, 9, true), (13, 1, false)]), (41, .agg [.full [], .full [], .full [], .full [], (0:Int), .d (.str []), .full [], .full [], (0:Int), .d (.str []), (0:Int), .full [], .full [], .full []] [(0, 1, false), (1, 1, false), (2, 1, false), (3, 1, false), (4, 9, true), (13, 1, false)]), (42, .agg [.full [], (0:Int)] [(0, 1, false), (1, 1, false)]), (43, .agg [.full [], (0:Int)] [(0, 1, false), (1, 1, false)]), (44, .cell (.d .nilf)), (45, .cell (.d .nilf)), (46, .cell (0:Int)), (47, .cell (.d (.str []))), (48, .slice 9 128)]
def tl3 : List (Nat × Ty) := [(49, .agg [(0:Int), .d (.str []), .d (.str []), (0:Int), .d (.str []), (0:Int), .full [], (0:Int), .full []] [(0, 1, false), (1, 1, false), (2, 1, false), (3, 4, true), (7, 1, false), (8, 1, false)]), (50, .agg [(0:Int), .d (.str []), .d (.str []), (0:Int), .d (.str []), (0:Int), .full [], (0:Int), .full []] [(0, 1, false), (1, 1, false), (2, 1, false), (3, 4, true), (7, 1, false), (8, 1, false)]), (51, .cell (.d .nilf)), (52, .cell (.d .nilf)), (53, .slice 4 88), (54, .slice 3 56), (55, .slice 12 216), (56, .slice 8 128), (57, .slice 6 96), (58, .slice 25 456), (59, .agg [.full [], .full [], .full [], .full [], .full [], .full []] [(0, 1, false), (1, 1, false), (2, 1, false), (3, 1, false), (4, 1, false), (5, 1, false)]), (60, .agg [.full [], .full [], .full [], .full [], .full [], .full []] [(0, 1, false), (1, 1, false), (2, 1, false), (3, 1, false), (4, 1, false), (5, 1, false)]), (61, .cell (0:Int)), (62, .slice 7 128), (63, .slice 10 168)]
def tl4 : List (Nat × Ty) := [(64, .slice 9 168), (65, .agg [(0:Int), .d (.str []), (0:Int), .full [], .full [], .full [], .full []] [(0, 1, false), (1, 1, false), (2, 1, false), (3, 1, false), (4, 1, false), (5, 1, false), (6, 1, false)]), (66, .agg [(0:Int), .d (.str []), (0:Int), .full [], .full [], .full [], .full []] [(0, 1, false), (1, 1, false), (2, 1, false), (3, 1, false), (4, 1, false), (5, 1, false), (6, 1, false)]), (67, .cell (0:Int)), (68, .agg [.d (.str []), .full [], (0:Int), .d (.str []), (0:Int), .full [], .full [], .full [], .full [], (0:Int), .d (.bool false), .full [], .full [], .full [], .full [], (0:Int), .d (.str []), .full [], .full [], (0:Int), .d (.str []), (0:Int), .full [], .full [], .full []] [(0, 1, false), (1, 1, false), (2, 7, true), (9, 1, false), (10, 1, false), (11, 14, true)]), (69, .agg [.d (.str []), .full [], (0:Int), .d (.str []), (0:Int), .full [], .full [], .full [], .full [], (0:Int), .d (.bool false), .full [], .full [], .full [], .full [], (0:Int), .d (.str []), .full [], .full [], (0:Int), .d (.str []), (0:Int), .full [], .full [], .full []] [(0, 1, false), (1, 1, false), (2, 7, true), (9, 1, false), (10, 1, false), (11, 14, true)]), (70, .slice 7 128), (71, .cell (.d .nilf)), (72, .cell (.d .nilf)), (73, .slice 1 8), (75, .cell (.d .nilf)), (76, .cell (.d .nilf)), (77, .cell (.d .nilf)), (78, .cell (.d .nilf)), (79, .agg [(0:Int), .full [], .full []] [(0, 1, false), (1, 1, false), (2, 1, false)])]
def tl5 : List (Nat × Ty) := [(80, .agg [(0:Int), .full [], .full []] [(0, 1, false), (1, 1, false), (2, 1, false)]), (81, .cell (.d .nilf)), (82, .slice 2 24), (83, .slice 2 24), (84, .cell (.d .nilf)), (86, .cell (.d .nilf)), (87, .cell (.d .nilf)), (88, .cell (.d .nilf)), (89, .cell (.d .nilf)), (90, .cell (.d .nilf)), (91, .cell (0:Int)), (92, .slice 8 144), (93, .agg [(0:Int), (0:Int), .d (.str []), .full [], .full [], .full [], .full []] [(0, 1, false), (1, 1, false), (2, 1, false), (3, 1, false), (4, 1, false), (5, 1, false), (6, 1, false)]), (94, .agg [(0:Int), (0:Int), .d (.str []), .full [], .full [], .full [], .full []] [(0, 1, false), (1, 1, false), (2, 1, false), (3, 1, false), (4, 1, false), (5, 1, false), (6, 1, false)]), (95, .cell (.d .nilf))]
def tl6 : List (Nat × Ty) := [(96, .cell (.d .nilf)), (97, .cell (.d .nilf)), (98, .cell (.d .nilf)), (99, .cell (.d .nilf)), (100, .cell (.d .nilf)), (101, .slice 6 96), (102, .agg [.d (.str []), .d (.str []), .d (.str []), .full [], (0:Int), .d (.str []), (0:Int), .full []] [(0, 1, false), (1, 1, false), (2, 1, false), (3, 1, false), (4, 4, true)]), (103, .agg [.d (.str []), .d (.str []), .d (.str []), .full [], (0:Int), .d (.str []), (0:Int), .full []] [(0, 1, false), (1, 1, false), (2, 1, false), (3, 1, false), (4, 4, true)]), (104, .agg [.d (.str []), .full [], (0:Int), .d (.str []), (0:Int), .full []] [(0, 1, false), (1, 1, false), (2, 4, true)]), (105, .agg [.d (.str []), .full [], (0:Int), .d (.str []), (0:Int), .full []] [(0, 1, false), (1, 1, false), (2, 4, true)]), (107, .cell (.d .nilf)), (108, .cell (0:Int)), (109, .cell (.d .nilf)), (110, .cell (.d .nilp)), (111, .map 9 94 (.str []) (.agg [.int .i64 0, .int .i64 0, .str [], .lst [], .lst [], .lst [], .lst []]))]
def tl7 : List (Nat × Ty) := [(112, .cell (.d .nilf)), (113, .agg [.full [], .full [], .full [], .full [], .full [], .full [], .undef, .full [], .full []] [(0, 6, true), (6, 1, false), (7, 1, false), (8, 1, false)]), (114, .agg [.full [], .full [], .full [], .full [], .full [], .full [], .undef, .full [], .full []] [(0, 6, true), (6, 1, false), (7, 1, false), (8, 1, false)]), (116, .agg [.d (.str []), (0:Int)] [(0, 1, false), (1, 1, false)]), (117, .agg [.d (.str []), (0:Int)] [(0, 1, false), (1, 1, false)]), (118, .cell (.d .nilf)), (120, .cell (.d .nilf)), (121, .cell (.d .nilf)), (123, .cell (.d .nilf)), (124, .arr 2 1 false [.d (.bool false), .d (.bool false)]), (125, .arr 2 1 false [.d (.bool false), .d (.bool false)]), (126, .slice 3 48), (127, .cell (.d .nilf)), (128, .cell (.d .nilf)), (129, .cell (.d .nilf))]
def tl8 : List (Nat × Ty) := [(130, .cell (.d .nilf)), (131, .cell (.d .nilf)), (132, .cell (.d .nilf)), (133, .cell (.d .nilf)), (134, .cell (.d .nilf)), (135, .cell (.d .nilf)), (136, .cell (.d .nilf)), (137, .cell (.d .nilf)), (138, .cell (.d .nilf)), (139, .cell (.d .nilf)), (140, .agg [.full [], .full []] [(0, 1, false), (1, 1, false)]), (141, .agg [.full [], .full []] [(0, 1, false), (1, 1, false)]), (142, .cell (.d .nilf)), (143, .cell (.d .nilf)), (144, .cell (.d .nilf))]
def tl9 : List (Nat × Ty) := [(145, .cell (.d .nilf)), (146, .cell (.d .nilf)), (147, .cell (.d .nilf)), (148, .cell (.d .nilf)), (149, .cell (.d .nilf)), (150, .cell (.d .nilf)), (151, .cell (.d .nilf)), (152, .map 9 4 (.str []) (.one (.bool false))), (153, .cell (.d .nilf)), (154, .slice 2 32), (155, .slice 3 64), (156, .agg [.d (.str []), .full [], .full [], .full []] [(0, 1, false), (1, 1, false), (2, 1, false), (3, 1, false)]), (157, .agg [.d (.str []), .full [], .full [], .full []] [(0, 1, false), (1, 1, false), (2, 1, false), (3, 1, false)]), (159, .cell (.d .nilf)), (161, .cell (.d .nilf))]
def tl10 : List (Nat × Ty) := [(163, .cell (.d .nilf)), (164, .cell (.d .nilp)), (165, .agg [.full [], .full [], .full [], .full [], .full [], .full [], .undef, .full [], .full []] [(0, 6, true), (6, 1, false), (7, 1, false), (8, 1, false)]), (166, .agg [.full [], .full [], .full [], .full [], .full [], .full [], .undef, .full [], .full []] [(0, 6, true), (6, 1, false), (7, 1, false), (8, 1, false)]), (167, .cell (.d .nilf)), (168, .cell (.d .nilf)), (169, .cell (.d .nilf)), (170, .cell (.d .nilf)), (171, .cell (.d .nilf)), (172, .cell (.d .nilf)), (173, .cell (.d .nilf)), (174, .cell (.d .nilf)), (176, .cell (.d .nilf)), (177, .cell (.d .nilf)), (178, .cell (.d .nilf))]
def tl11 : List (Nat × Ty) := [(179, .cell (.d .nilf)), (180, .cell (.d (.int .u64 0))), (181, .agg [.d (.str []), .full [], .full []] [(0, 1, false), (1, 1, false), (2, 1, false)]), (182, .agg [.d (.str []), .full [], .full []] [(0, 1, false), (1, 1, false), (2, 1, false)]), (183, .cell (.d .nilf)), (184, .cell (.d .nilf)), (185, .cell (.d .nilf)), (186, .cell (.d .nilf)), (187, .agg [.d (.str []), .full [], (0:Int)] [(0, 1, false), (1, 1, false), (2, 1, false)]), (188, .agg [.d (.str []), .full [], (0:Int)] [(0, 1, false), (1, 1, false), (2, 1, false)]), (189, .cell (.d .nilf)), (190, .cell (.d .nilf)), (191, .cell (.d .nilf)), (192, .cell (.d .nilf)), (193, .cell (.d .nilf))]
def tl12 : List (Nat × Ty) := [(194, .cell (.d .nilf)), (195, .cell (0:Int)), (197, .cell (.d .nilf)), (198, .cell (.d .nilf)), (199, .cell (.d .nilf)), (200, .cell (.d .nilf)), (201, .cell (.d .nilf)), (202, .cell (.d .nilf)), (203, .cell (.d (.int .u32 0))), (204, .cell (.d .nilf)), (205, .cell (.d (.int .u64 0))), (206, .cell (.d .nilf)), (207, .cell (.d .nilf)), (208, .arr 42 1 false [.d (.str []), .d (.str []), .d (.str []), .d (.str []), .d (.str []), .d (.str []), .d (.str []), .d (.str []), .d (.str []), .d (.str []), .d (.str []), .d (.str []), .d (.str []), .d (.str []), .d (.str []), .d (.str []), .d (.str []), .d (.str []), .d (.str []), .d (.str []), .d (.str []), .d (.str []), .d (.str []), .d (.str []), .d (.str []), .d (.str []), .d (.str []), .d (.str []), .d (.str []), .d (.str []), .d (.str []), .d (.str []), .d (.str []), .d (.str []), .d (.str []), .d (.str []), .d (.str []), .d (.str []), .d (.str []), .d (.str []), .d (.str []), .d (.str [])]), (209, .cell (.d (.int .u64 0)))]
def tl13 : List (Nat × Ty) := [(210, .cell (.d .nilf)), (211, .cell (.d .nilf)), (212, .cell (.d .nilf)), (213, .cell (.d .nilp)), (214, .cell (.d .nilf)), (215, .arr 24 1 false [.d (.int .u8 0), .d (.int .u8 0), .d (.int .u8 0), .d (.int .u8 0), .d (.int .u8 0), .d (.int .u8 0), .d (.int .u8 0), .d (.int .u8 0), .d (.int .u8 0), .d (.int .u8 0), .d (.int .u8 0), .d (.int .u8 0), .d (.int .u8 0), .d (.int .u8 0), .d (.int .u8 0), .d (.int .u8 0), .d (.int .u8 0), .d (.int .u8 0), .d (.int .u8 0), .d (.int .u8 0), .d (.int .u8 0), .d (.int .u8 0), .d (.int .u8 0), .d (.int .u8 0)]), (216, .cell (.d .nilf)), (217, .slice 1 1), (219, .cell (.d .nilf)), (220, .cell (.d .nilf)), (221, .cell (.d .nilp)), (222, .cell (.d .nilf)), (223, .arr 20 1 false [.d (.int .u64 0), .d (.int .u64 0), .d (.int .u64 0), .d (.int .u64 0), .d (.int .u64 0), .d (.int .u64 0), .d (.int .u64 0), .d (.int .u64 0), .d (.int .u64 0), .d (.int .u64 0), .d (.int .u64 0), .d (.int .u64 0), .d (.int .u64 0), .d (.int .u64 0), .d (.int .u64 0), .d (.int .u64 0), .d (.int .u64 0), .d (.int .u64 0), .d (.int .u64 0), .d (.int .u64 0)]), (224, .arr 65 1 false [.d (.int .u8 0), .d (.int .u8 0), .d (.int .u8 0), .d (.int .u8 0), .d (.int .u8 0), .d (.int .u8 0), .d (.int .u8 0), .d (.int .u8 0), .d (.int .u8 0), .d (.int .u8 0), .d (.int .u8 0), .d (.int .u8 0), .d (.int .u8 0), .d (.int .u8 0), .d (.int .u8 0), .d (.int .u8 0), .d (.int .u8 0), .d (.int .u8 0), .d (.int .u8 0), .d (.int .u8 0), .d (.int .u8 0), .d (.int .u8 0), .d (.int .u8 0), .d (.int .u8 0), .d (.int .u8 0), .d (.int .u8 0), .d (.int .u8 0), .d (.int .u8 0), .d (.int .u8 0), .d (.int .u8 0), .d (.int .u8 0), .d (.int .u8 0), .d (.int .u8 0), .d (.int .u8 0), .d (.int .u8 0), .d (.int .u8 0), .d (.int .u8 0), .d (.int .u8 0), .d (.int .u8 0), .d (.int .u8 0), .d (.int .u8 0), .d (.int .u8 0), .d (.int .u8 0), .d (.int .u8 0), .d (.int .u8 0), .d (.int .u8 0), .d (.int .u8 0), .d (.int .u8 0), .d (.int .u8 0), .d (.int .u8 0), .d (.int .u8 0), .d (.int .u8 0), .d (.int .u8 0), .d (.int .u8 0), .d (.int .u8 0), .d (.int .u8 0), .d (.int .u8 0), .d (.int .u8 0), .d (.int .u8 0), .d (.int .u8 0), .d (.int .u8 0), .d (.int .u8 0), .d (.int .u8 0), .d (.int .u8 0), .d (.int .u8 0)]), (225, .cell (.d .nilf))]
def tl14 : List (Nat × Ty) := [(226, .arr 32 1 false [.d (.int .u8 0), .d (.int .u8 0), .d (.int .u8 0), .d (.int .u8 0), .d (.int .u8 0), .d (.int .u8 0), .d (.int .u8 0), .d (.int .u8 0), .d (.int .u8 0), .d (.int .u8 0), .d (.int .u8 0), .d (.int .u8 0), .d (.int .u8 0), .d (.int .u8 0), .d (.int .u8 0), .d (.int .u8 0), .d (.int .u8 0), .d (.int .u8 0), .d (.int .u8 0), .d (.int .u8 0), .d (.int .u8 0), .d (.int .u8 0), .d (.int .u8 0), .d (.int .u8 0), .d (.int .u8 0), .d (.int .u8 0), .d (.int .u8 0), .d (.int .u8 0), .d (.int .u8 0), .d (.int .u8 0), .d (.int .u8 0), .d (.int .u8 0)]), (227, .arr 64 1 false [.d (.int .u8 0), .d (.int .u8 0), .d (.int .u8 0), .d (.int .u8 0), .d (.int .u8 0), .d (.int .u8 0), .d (.int .u8 0), .d (.int .u8 0), .d (.int .u8 0), .d (.int .u8 0), .d (.int .u8 0), .d (.int .u8 0), .d (.int .u8 0), .d (.int .u8 0), .d (.int .u8 0), .d (.int .u8 0), .d (.int .u8 0), .d (.int .u8 0), .d (.int .u8 0), .d (.int .u8 0), .d (.int .u8 0), .d (.int .u8 0), .d (.int .u8 0), .d (.int .u8 0), .d (.int .u8 0), .d (.int .u8 0), .d (.int .u8 0), .d (.int .u8 0), .d (.int .u8 0), .d (.int .u8 0), .d (.int .u8 0), .d (.int .u8 0), .d (.int .u8 0), .d (.int .u8 0), .d (.int .u8 0), .d (.int .u8 0), .d (.int .u8 0), .d (.int .u8 0), .d (.int .u8 0), .d (.int .u8 0), .d (.int .u8 0), .d (.int .u8 0), .d (.int .u8 0), .d (.int .u8 0), .d (.int .u8 0), .d (.int .u8 0), .d (.int .u8 0), .d (.int .u8 0), .d (.int .u8 0), .d (.int .u8 0), .d (.int .u8 0), .d (.int .u8 0), .d (.int .u8 0), .d (.int .u8 0), .d (.int .u8 0), .d (.int .u8 0), .d (.int .u8 0), .d (.int .u8 0), .d (.int .u8 0), .d (.int .u8 0), .d (.int .u8 0), .d (.int .u8 0), .d (.int .u8 0), .d (.int .u8 0)]), (228, .cell (.d .nilf)), (229, .agg [.d .nilp, .d .nilp, .d .nilp, .d (.str [])] [(0, 1, false), (1, 1, false), (2, 1, false), (3, 1, false)]), (230, .agg [.d .nilp, .d .nilp, .d .nilp, .d (.str [])] [(0, 1, false), (1, 1, false), (2, 1, false), (3, 1, false)]), (231, .arr 0 1 false []), (234, .cell (.d .nilf)), (235, .cell (.d (.int .u8 0))), (236, .cell (.d (.int .u8 0))), (237, .cell (.d .nilf)), (238, .cell (.d .nilp)), (239, .cell (.d (.int .i32 0))), (240, .cell (.d (.int .i32 0))), (241, .agg [.d (.int .u64 0), .d (.int .u64 0), .d (.int .u32 0), .d (.int .u8 0), .d (.int .u8 0), .d (.int .u8 0), .d (.int .u8 0), .d .nilf, .d .nilp, .d (.int .i32 0), .d (.int .i32 0)] [(0, 1, false), (1, 1, false), (2, 1, false), (3, 1, false), (4, 1, false), (5, 1, false), (6, 1, false), (7, 1, false), (8, 1, false), (9, 1, false), (10, 1, false)]), (242, .agg [.d (.int .u64 0), .d (.int .u64 0), .d (.int .u32 0), .d (.int .u8 0), .d (.int .u8 0), .d (.int .u8 0), .d (.int .u8 0), .d .nilf, .d .nilp, .d (.int .i32 0), .d (.int .i32 0)] [(0, 1, false), (1, 1, false), (2, 1, false), (3, 1, false), (4, 1, false), (5, 1, false), (6, 1, false), (7, 1, false), (8, 1, false), (9, 1, false), (10, 1, false)])]
def tl15 : List (Nat × Ty) := [(243, .agg [.d (.str []), .d (.str [])] [(0, 1, false), (1, 1, false)]), (244, .agg [.d (.str []), .d (.str [])] [(0, 1, false), (1, 1, false)]), (245, .agg [.d (.str []), .d (.str [])] [(0, 1, false), (1, 1, false)]), (246, .agg [.d (.str []), .d (.str [])] [(0, 1, false), (1, 1, false)]), (247, .agg [.d (.str []), .full [], (0:Int), .d (.str []), (0:Int), .full [], (0:Int), .d (.str []), (0:Int), .full []] [(0, 1, false), (1, 1, false), (2, 4, true), (6, 4, true)]), (248, .agg [.d (.str []), .full [], (0:Int), .d (.str []), (0:Int), .full [], (0:Int), .d (.str []), (0:Int), .full []] [(0, 1, false), (1, 1, false), (2, 4, true), (6, 4, true)]), (249, .slice 10 168), (250, .agg [.d (.str []), .d (.str []), .full []] [(0, 1, false), (1, 1, false), (2, 1, false)]), (251, .agg [.d (.str []), .d (.str []), .full []] [(0, 1, false), (1, 1, false), (2, 1, false)]), (252, .agg [.d (.str []), (0:Int), .d (.str []), .full [], .full [], (0:Int), .d (.str []), (0:Int), .full [], .full [], .full [], .full []] [(0, 1, false), (1, 9, true), (10, 1, false), (11, 1, false)]), (253, .agg [.d (.str []), (0:Int), .d (.str []), .full [], .full [], (0:Int), .d (.str []), (0:Int), .full [], .full [], .full [], .full []] [(0, 1, false), (1, 9, true), (10, 1, false), (11, 1, false)]), (254, .agg [.d (.str []), .full [], (0:Int), .d (.str []), (0:Int), .full []] [(0, 1, false), (1, 1, false), (2, 4, true)]), (255, .agg [.d (.str []), .full [], (0:Int), .d (.str []), (0:Int), .full []] [(0, 1, false), (1, 1, false), (2, 4, true)]), (256, .agg [.d (.str []), (0:Int), .d (.str []), .full [], .full [], (0:Int), .d (.str []), (0:Int), .full [], .full []] [(0, 1, false), (1, 9, true)]), (257, .agg [.d (.str []), (0:Int), .d (.str []), .full [], .full [], (0:Int), .d (.str []), (0:Int), .full [], .full []] [(0, 1, false), (1, 9, true)])]
def tl16 : List (Nat × Ty) := [(258, .agg [.d (.str []), .full [], (0:Int), .d (.str []), (0:Int), .full [], .full [], .full [], .full []] [(0, 1, false), (1, 1, false), (2, 7, true)]), (259, .agg [.d (.str []), .full [], (0:Int), .d (.str []), (0:Int), .full [], .full [], .full [], .full []] [(0, 1, false), (1, 1, false), (2, 7, true)]), (260, .agg [.d (.str []), (0:Int), (0:Int), .d (.str []), .full [], .full [], .full [], .full []] [(0, 1, false), (1, 7, true)]), (261, .agg [.d (.str []), (0:Int), (0:Int), .d (.str []), .full [], .full [], .full [], .full []] [(0, 1, false), (1, 7, true)]), (262, .agg [.d (.str []), .d (.str [])] [(0, 1, false), (1, 1, false)]), (263, .cell (.d .nilp)), (264, .agg [.d (.str []), (0:Int), .d (.str []), .full [], .full [], (0:Int), .d (.str []), (0:Int), .full [], .full []] [(0, 1, false), (1, 9, true)])]
def tl : List (Nat × Ty) := tl0 ++ (tl1 ++ (tl2 ++ (tl3 ++ (tl4 ++ (tl5 ++ (tl6 ++ (tl7 ++ (tl8 ++ (tl9 ++ (tl10 ++ (tl11 ++ (tl12 ++ (tl13 ++ (tl14 ++ (tl15 ++ (tl16))))))))))))))))
theorem tl_ok : chkTL Tryz.prog tl = true := by kernel_rfl
theorem mixed : Tryz.prog.follows .mixedOrders = true := by kernel_rfl
theorem ev {f : FuncId} {fn : Func} {fa : FnA} {G : Nat → Option (List D)} {args : List CV} {r : CV} (hf : Tryz.prog.funcs[f]? = some fn) (htr : trFn (getTy tl) fn = some fa) (h : Body ⟨G, Ev Tryz.prog G, ItOk Tryz.prog G⟩ fa args r) : Ev Tryz.prog G f args r := ev_of_body hf htr (fun _ _ _ h => h) (fun _ _ _ h => h) rfl (fun _ _ ht => chkTL_get tl_ok ht) mixed h
theorem tr_83 : trFn (getTy tl) Tryz.f83 = some fn_pred_visit := by kernel_rfl
theorem tr_82 : trFn (getTy tl) Tryz.f82 = some fn_pred_before_1 := by kernel_rfl
theorem tr_19 : trFn (getTy tl) Tryz.f19 = some fn_metric_Obligation := by kernel_rfl
theorem sys (G : Nat → Option (List D)) : Sys ⟨G, Ev Tryz.prog G, ItOk Tryz.prog G⟩ where
 l41_MetricLess _ _ := ev Tryz.func3 (by kernel_rfl)
 l41_MetricObliges _ _ := ev Tryz.func4 (by kernel_rfl)
 l41_MetricValues _ _ := ev Tryz.func5 (by kernel_rfl)
 l41_MetricFalls _ _ := ev Tryz.func6 (by kernel_rfl)
 l41_MetricOrder _ _ := ev Tryz.func7 (by kernel_rfl)
 l41_MetricLonger _ _ := ev Tryz.func8 (by kernel_rfl)
 l41_MetricMeans _ _ := ev Tryz.func9 (by kernel_rfl)
 l41_small _ _ := ev Tryz.func10 (by kernel_rfl)
 l41_awake _ _ := ev Tryz.func11 (by kernel_rfl)
 r07_Same _ _ := ev Tryz.func12 (by kernel_rfl)
 metric_Less _ _ := ev Tryz.func13 (by kernel_rfl)
 r41_Less _ _ := ev Tryz.func14 (by kernel_rfl)
 metric_Bounded _ _ := ev Tryz.func15 (by kernel_rfl)
 r41_Bounded _ _ := ev Tryz.func16 (by kernel_rfl)
 r07_Nodes _ _ := ev Tryz.func17 (by kernel_rfl)
 l41_sameCons _ _ := ev Tryz.func18 (by kernel_rfl)
 metric_Obligation _ _ := ev Tryz.func19 tr_19
 r41_Obligation _ _ := ev Tryz.func20 (by kernel_rfl)
 l41_few _ _ := ev Tryz.func21 (by kernel_rfl)
 l41_light _ _ := ev Tryz.func22 (by kernel_rfl)
 metric_Value _ _ := ev Tryz.func23 (by kernel_rfl)
 r41_Value _ _ := ev Tryz.func24 (by kernel_rfl)
 l41_same _ _ := ev Tryz.func25 (by kernel_rfl)
 metric_Falls _ _ := ev Tryz.func26 (by kernel_rfl)
 r41_Falls _ _ := ev Tryz.func27 (by kernel_rfl)
 l41_evaluated _ _ := ev Tryz.func28 (by kernel_rfl)
 meaning_Holds _ _ := ev Tryz.func29 (by kernel_rfl)
 l41_v _ _ := ev Tryz.func30 (by kernel_rfl)
 l41_two _ _ := ev Tryz.func31 (by kernel_rfl)
 l41_ack _ _ := ev Tryz.func32 (by kernel_rfl)
 l41_n _ _ := ev Tryz.func33 (by kernel_rfl)
 r07_Split _ _ := ev Tryz.func34 (by kernel_rfl)
 pred_And _ _ := ev Tryz.func35 (by kernel_rfl)
 metric_op _ _ := ev Tryz.func36 (by kernel_rfl)
 r41_two _ _ := ev Tryz.func37 (by kernel_rfl)
 r07_And _ _ := ev Tryz.func38 (by kernel_rfl)
 pred_SubstAll _ _ := ev Tryz.func39 (by kernel_rfl)
 metric_Obligation_1 _ _ := ev Tryz.func40 (by kernel_rfl)
 constraint_And _ _ := ev Tryz.func41 (by kernel_rfl)
 r07_SubstAll _ _ := ev Tryz.func42 (by kernel_rfl)
 r38_And _ _ := ev Tryz.func43 (by kernel_rfl)
 r07_Apps _ _ := ev Tryz.func44 (by kernel_rfl)
 l41_size _ _ := ev Tryz.func45 (by kernel_rfl)
 pred_Check _ _ := ev Tryz.func46 (by kernel_rfl)
 pred_Free _ _ := ev Tryz.func47 (by kernel_rfl)
 metric_term_flat _ _ := ev Tryz.func48 (by kernel_rfl)
 meaning_Eval _ _ := ev Tryz.func49 (by kernel_rfl)
 r41_index _ _ := ev Tryz.func50 (by kernel_rfl)
 r07_Check _ _ := ev Tryz.func51 (by kernel_rfl)
 r41_measured _ _ := ev Tryz.func52 (by kernel_rfl)
 r10_Eval _ _ := ev Tryz.func53 (by kernel_rfl)
 pred_Same _ _ := ev Tryz.func54 (by kernel_rfl)
 r07_Void _ _ := ev Tryz.func55 (by kernel_rfl)
 pred_constant _ _ := ev Tryz.func56 (by kernel_rfl)
 pred_void _ _ := ev Tryz.func57 (by kernel_rfl)
 pred_copied _ _ := ev Tryz.func58 (by kernel_rfl)
 r07_True _ _ := ev Tryz.func59 (by kernel_rfl)
 r07_False _ _ := ev Tryz.func60 (by kernel_rfl)
 names_Find _ _ := ev Tryz.func61 (by kernel_rfl)
 constraint_copied _ _ := ev Tryz.func62 (by kernel_rfl)
 r04_Find _ _ := ev Tryz.func63 (by kernel_rfl)
 r07_with _ _ := ev Tryz.func64 (by kernel_rfl)
 r38_single _ _ := ev Tryz.func65 (by kernel_rfl)
 r07_collect _ _ := ev Tryz.func66 (by kernel_rfl)
 pred_Nodes _ _ := ev Tryz.func67 (by kernel_rfl)
 pred_Depth _ _ := ev Tryz.func68 (by kernel_rfl)
 pred_before _ _ := ev Tryz.func69 (by kernel_rfl)
 pred_node _ _ := ev Tryz.func70 (by kernel_rfl)
 names_Union _ _ := ev Tryz.func71 (by kernel_rfl)
 names_Fresh _ _ := ev Tryz.func72 (by kernel_rfl)
 measure_Value _ _ := ev Tryz.func73 (by kernel_rfl)
 meaning_evaluator_value _ _ := ev Tryz.func74 (by kernel_rfl)
 r07_Depth _ _ := ev Tryz.func75 (by kernel_rfl)
 r07_form _ _ := ev Tryz.func76 (by kernel_rfl)
 r34_Value _ _ := ev Tryz.func77 (by kernel_rfl)
 r10_value _ _ := ev Tryz.func78 (by kernel_rfl)
 pred_equal_api_Pred _ _ := ev Tryz.func79 (by kernel_rfl)
 slices_Index_string_string _ _ := ev Tryz.func80 (by kernel_rfl)
 r07_Has _ _ := ev Tryz.func81 (by kernel_rfl)
 pred_before_1 _ _ := ev Tryz.func82 tr_82
 pred_visit _ _ := ev Tryz.func83 tr_83
 pred_kids _ _ := ev Tryz.func84 (by kernel_rfl)
 pred_named _ _ := ev Tryz.func85 (by kernel_rfl)
 num_In _ _ := ev Tryz.func86 (by kernel_rfl)
 names_Core _ _ := ev Tryz.func87 (by kernel_rfl)
 strconv_Itoa _ _ := ev Tryz.func90 (by kernel_rfl)
 syntax_Con _ _ := ev Tryz.func91 (by kernel_rfl)
 measure_find _ _ := ev Tryz.func92 (by kernel_rfl)
 measure_caseOf _ _ := ev Tryz.func93 (by kernel_rfl)
 measure_body_flat _ _ := ev Tryz.func94 (by kernel_rfl)
 meaning_Find _ _ := ev Tryz.func95 (by kernel_rfl)
 meaning_evaluator_fact _ _ := ev Tryz.func96 (by kernel_rfl)
 num_Sub _ _ := ev Tryz.func97 (by kernel_rfl)
 meaning_truth _ _ := ev Tryz.func98 (by kernel_rfl)
 meaning_operation _ _ := ev Tryz.func99 (by kernel_rfl)
 r07_node _ _ := ev Tryz.func100 (by kernel_rfl)
 r20_Con _ _ := ev Tryz.func101 (by kernel_rfl)
 r34_find _ _ := ev Tryz.func102 (by kernel_rfl)
 r34_Case _ _ := ev Tryz.func103 (by kernel_rfl)
 r34_body _ _ := ev Tryz.func104 (by kernel_rfl)
 r10_Find _ _ := ev Tryz.func105 (by kernel_rfl)
 r10_bounded _ _ := ev Tryz.func106 (by kernel_rfl)
 r10_fact _ _ := ev Tryz.func107 (by kernel_rfl)
 r10_compute _ _ := ev Tryz.func108 (by kernel_rfl)
 names_cut _ _ := ev Tryz.func109 (by kernel_rfl)
 names_name _ _ := ev Tryz.func110 (by kernel_rfl)
 names_title _ _ := ev Tryz.func111 (by kernel_rfl)
 names_sized _ _ := ev Tryz.func112 (by kernel_rfl)
 names_alphanumeric _ _ := ev Tryz.func113 (by kernel_rfl)
 names_word _ _ := ev Tryz.func114 (by kernel_rfl)
 internal_strconv_Itoa _ _ := ev Tryz.func117 (by kernel_rfl)
 slices_IndexFunc_api_Measure_api_Measure _ _ := ev Tryz.func118 (by kernel_rfl)
 measure_find_1 _ _ := ev Tryz.func119 (by kernel_rfl)
 slices_IndexFunc_api_Case_api_Case _ _ := ev Tryz.func120 (by kernel_rfl)
 measure_caseOf_1 _ _ := ev Tryz.func121 (by kernel_rfl)
 measure_variable _ _ := ev Tryz.func122 (by kernel_rfl)
 slices_Equal_int_int _ _ := ev Tryz.func123 (by kernel_rfl)
 num_checked _ _ := ev Tryz.func124 (by kernel_rfl)
 num_Add _ _ := ev Tryz.func125 (by kernel_rfl)
 num_Mul _ _ := ev Tryz.func126 (by kernel_rfl)
 r07_named _ _ := ev Tryz.func127 (by kernel_rfl)
 r07_kids _ _ := ev Tryz.func128 (by kernel_rfl)
 r01_In _ _ := ev Tryz.func129 (by kernel_rfl)
 r07_called _ _ := ev Tryz.func130 (by kernel_rfl)
 r34_field _ _ := ev Tryz.func131 (by kernel_rfl)
 r34_operation _ _ := ev Tryz.func132 (by kernel_rfl)
 r10_same _ _ := ev Tryz.func133 (by kernel_rfl)
 r01_Add _ _ := ev Tryz.func134 (by kernel_rfl)
 r01_Sub _ _ := ev Tryz.func135 (by kernel_rfl)
 r01_Mul _ _ := ev Tryz.func136 (by kernel_rfl)
 r10_truth _ _ := ev Tryz.func137 (by kernel_rfl)
 names_small _ _ := ev Tryz.func138 (by kernel_rfl)
 names_Keyword _ _ := ev Tryz.func139 (by kernel_rfl)
 names_digit _ _ := ev Tryz.func140 (by kernel_rfl)
 names_capital _ _ := ev Tryz.func141 (by kernel_rfl)
 num_abs _ _ := ev Tryz.func154 (by kernel_rfl)
 r04_Core _ _ := ev Tryz.func155 (by kernel_rfl)
 r34_is _ _ := ev Tryz.func156 (by kernel_rfl)
 r01_result _ _ := ev Tryz.func157 (by kernel_rfl)
 r04_parts _ _ := ev Tryz.func168 (by kernel_rfl)
 r04_Check _ _ := ev Tryz.func169 (by kernel_rfl)
 r04_Title _ _ := ev Tryz.func170 (by kernel_rfl)
 r04_part _ _ := ev Tryz.func171 (by kernel_rfl)
 r04_small _ _ := ev Tryz.func177 (by kernel_rfl)
 r04_Keyword _ _ := ev Tryz.func178 (by kernel_rfl)
 r04_digit _ _ := ev Tryz.func179 (by kernel_rfl)
 r04_capital _ _ := ev Tryz.func180 (by kernel_rfl)
 r04_keywords _ _ := ev Tryz.func183 (by kernel_rfl)
def X (G : Nat → Option (List D)) : AEnv := ⟨G, Ev Tryz.prog G, ItOk Tryz.prog G⟩
theorem before_it (G : Nat → Option (List D)) (p : Pred) : ItOk Tryz.prog G pred_before_1 [.ref (Pred.cells p)] (yields p.pre) := before_1_ok (P := Tryz.prog) (T := getTy tl) (fun _ _ ht => chkTL_get tl_ok ht) Tryz.func83 tr_83 Tryz.func82 tr_82 p
def G0 : Nat → Option (List D) := fun g => if g = 0 then some (kws.map .str) else none
end Go.Abs.Seat
end
section
set_option linter.unusedSimpArgs false
set_option linter.unusedVariables false
set_option linter.unusedSectionVars false
namespace Go.Proofs
open Go.Shelf
def Tryz.lays190_ren : Go.Shelf.Ren := ⟨fun | 190 => 88 | 125 => 116 | 258 => 115 | 128 => 151 | 129 => 152 | 302 => 142 | 303 => 143 | 304 => 144 | 305 => 145 | 306 => 146 | 307 => 147 | 308 => 148 | 309 => 149 | 310 => 150 | 333 => 158 | 329 => 159 | 330 => 160 | 334 => 161 | 335 => 162 | 336 => 163 | 344 => 172 | n => n, fun | 31 => 32 | 9 => 9 | 3 => 3 | 46 => 180 | 0 => 0 | 51 => 203 | 53 => 205 | 4 => 4 | 183 => 196 | 182 => 195 | 131 => 119 | 5 => 5 | 218 => 209 | 222 => 213 | 228 => 221 | 229 => 106 | n => n, fun | n => n⟩
theorem Tryz.lays190 : Go.Proofs.Lays.n190 Tryz.prog Tryz.lays190_ren := {
 mixed := by kernel_rfl
 f125 := Tryz.func116.trans (congrArg some (by kernel_rfl))
 f128 := Tryz.func151.trans (congrArg some (by kernel_rfl))
 f129 := Tryz.func152.trans (congrArg some (by kernel_rfl))
 f190 := Tryz.func88.trans (congrArg some (by kernel_rfl))
 f258 := Tryz.func115.trans (congrArg some (by kernel_rfl))
 f302 := Tryz.func142.trans (congrArg some (by kernel_rfl))
 f303 := Tryz.func143.trans (congrArg some (by kernel_rfl))
 f304 := Tryz.func144.trans (congrArg some (by kernel_rfl))
 f305 := Tryz.func145.trans (congrArg some (by kernel_rfl))
 f306 := Tryz.func146.trans (congrArg some (by kernel_rfl))
 f307 := Tryz.func147.trans (congrArg some (by kernel_rfl))
 f308 := Tryz.func148.trans (congrArg some (by kernel_rfl))
 f309 := Tryz.func149.trans (congrArg some (by kernel_rfl))
 f310 := Tryz.func150.trans (congrArg some (by kernel_rfl))
 f329 := Tryz.func159.trans (congrArg some (by kernel_rfl))
 f330 := Tryz.func160.trans (congrArg some (by kernel_rfl))
 f333 := Tryz.func158.trans (congrArg some (by kernel_rfl))
 f334 := Tryz.func161.trans (congrArg some (by kernel_rfl))
 f335 := Tryz.func162.trans (congrArg some (by kernel_rfl))
 f336 := Tryz.func163.trans (congrArg some (by kernel_rfl))
 f344 := Tryz.func172.trans (congrArg some (by kernel_rfl))
 t0 := Tryz.underlying0
 a0 := Tryz.isAgg0
 z0 := Tryz.sizeOf0
 v0 := Tryz.zeroValue0
 t3 := Tryz.underlying3
 a3 := Tryz.isAgg3
 z3 := Tryz.sizeOf3
 v3 := Tryz.zeroValue3
 t4 := Tryz.underlying4
 a4 := Tryz.isAgg4
 z4 := Tryz.sizeOf4
 v4 := Tryz.zeroValue4
 t5 := Tryz.underlying5
 a5 := Tryz.isAgg5
 z5 := Tryz.sizeOf5
 v5 := Tryz.zeroValue5
 t9 := Tryz.underlying9
 a9 := Tryz.isAgg9
 z9 := Tryz.sizeOf9
 v9 := Tryz.zeroValue9
 t31 := Tryz.underlying32
 a31 := Tryz.isAgg32
 z31 := Tryz.sizeOf32
 v31 := Tryz.zeroValue32
 t46 := Tryz.underlying180
 a46 := Tryz.isAgg180
 z46 := Tryz.sizeOf180
 v46 := Tryz.zeroValue180
 t51 := Tryz.underlying203
 a51 := Tryz.isAgg203
 z51 := Tryz.sizeOf203
 v51 := Tryz.zeroValue203
 t53 := Tryz.underlying205
 a53 := Tryz.isAgg205
 z53 := Tryz.sizeOf205
 v53 := Tryz.zeroValue205
 t131 := Tryz.underlying119
 a131 := Tryz.isAgg119
 z131 := Tryz.sizeOf119
 v131 := Tryz.zeroValue119
 t182 := Tryz.underlying195
 a182 := Tryz.isAgg195
 z182 := Tryz.sizeOf195
 v182 := Tryz.zeroValue195
 t183 := Tryz.underlying196
 a183 := Tryz.isAgg196
 z183 := Tryz.sizeOf196
 v183 := Tryz.zeroValue196
 t218 := Tryz.underlying209
 a218 := Tryz.isAgg209
 z218 := Tryz.sizeOf209
 v218 := Tryz.zeroValue209
 t222 := Tryz.underlying213
 a222 := Tryz.isAgg213
 z222 := Tryz.sizeOf213
 v222 := Tryz.zeroValue213
 t228 := Tryz.underlying221
 a228 := Tryz.isAgg221
 z228 := Tryz.sizeOf221
 v228 := Tryz.zeroValue221
 t229 := Tryz.underlying106
 a229 := Tryz.isAgg106
 z229 := Tryz.sizeOf106
 v229 := Tryz.zeroValue106 }
open Go.Sort Go.RowKit in
theorem Tryz.slices_Sort_string (blk off cap : Nat) (ss : List (List UInt8)) (w : World) (hH : Holds encStr w blk off ss.toArray) (hblk : blk < w.heap.size) (hsz : ss.length < 4611686018427387904) :
  Calls Tryz.prog 88 #[.slice (some ⟨blk, off, none⟩) ss.length cap] w fun e w' =>
   e = .returned (.tuple #[]) ∧ ∃ n os, w' = grow (putRow encStr (Sort.ahead w n) blk off (ss.mergeSort fun x y => decide (x ≤ y)).toArray) os := Any.slices_Sort_string Tryz.lays190 blk off cap ss w hH hblk hsz
def Tryz.lays194_ren : Go.Shelf.Ren := ⟨fun | 194 => 89 | n => n, fun | 31 => 32 | 9 => 9 | 3 => 3 | 4 => 4 | 0 => 0 | n => n, fun | n => n⟩
theorem Tryz.lays194 : Go.Proofs.Lays.n194 Tryz.prog Tryz.lays194_ren := {
 mixed := by kernel_rfl
 f194 := Tryz.func89.trans (congrArg some (by kernel_rfl))
 t0 := Tryz.underlying0
 a0 := Tryz.isAgg0
 z0 := Tryz.sizeOf0
 v0 := Tryz.zeroValue0
 t3 := Tryz.underlying3
 a3 := Tryz.isAgg3
 z3 := Tryz.sizeOf3
 v3 := Tryz.zeroValue3
 t4 := Tryz.underlying4
 a4 := Tryz.isAgg4
 z4 := Tryz.sizeOf4
 v4 := Tryz.zeroValue4
 t9 := Tryz.underlying9
 a9 := Tryz.isAgg9
 z9 := Tryz.sizeOf9
 v9 := Tryz.zeroValue9
 t31 := Tryz.underlying32
 a31 := Tryz.isAgg32
 z31 := Tryz.sizeOf32
 v31 := Tryz.zeroValue32 }
open Go.RowKit Go.Lib Go.Sort in
theorem Tryz.slices_Compact_string (blk off cap : Nat) (zs : List (List UInt8)) (w : World) (hH : Holds encStr w blk off zs.toArray) (hsz : zs.length ≤ 9223372036854775807) (hcap : zs.length ≤ cap) :
  Calls Tryz.prog 89 #[.slice (some ⟨blk, off, none⟩) zs.length cap] w fun e w' => e = .returned (.slice (some ⟨blk, off, none⟩) (Lib.compact zs).length cap) ∧ ∃ q, w' = putRow encStr (Sort.ahead w q) blk off (Lib.compact zs ++ List.replicate (zs.length - (Lib.compact zs).length) []).toArray := Any.slices_Compact_string Tryz.lays194 blk off cap zs w hH hsz hcap
open Go.RowKit Go.Lib Go.Sort in
theorem Tryz.slices_Compact_string_empty (a : Option Addr) (cap : Nat) (w : World) :
  Calls Tryz.prog 89 #[.slice a 0 cap] w fun e w' => e = .returned (.slice a 0 cap) ∧ w' = w := Any.slices_Compact_string_empty Tryz.lays194 a cap w
open Go.RowKit Go.Sort in
theorem Tryz.slices_Sort_string_none (p : Option Addr) (cap : Nat) (w : World) :
  Calls Tryz.prog 88 #[.slice p 0 cap] w fun e w' => e = .returned (.tuple #[]) ∧ w' = w := Any.slices_Sort_string_none Tryz.lays190 p cap w
end Go.Proofs
end
section
set_option linter.unusedSimpArgs false
set_option linter.unusedVariables false
set_option linter.unusedSectionVars false
set_option maxRecDepth 100000
namespace Go.Abs.Seat
open Go Go.Abs Go.Proofs
theorem union_own (G : Nat → Option (List D)) : UnionOwn (X G) := fun a b h =>
 union_ev (P := Tryz.prog) (T := getTy tl) (eb := 16) (cd := Tryz.f71.body.getD .ret) Tryz.func71 (by kernel_rfl) (by kernel_rfl)
  (show (segs (Tryz.f71.body.getD .ret)).map (fun l => l.map fun p => p.2.toList.map opc) = some (unionOps 32 88 89) by kernel_rfl) (by kernel_rfl) (by kernel_rfl) (fun _ _ ht => chkTL_get tl_ok ht) (chkTL_get tl_ok (show getTy tl 32 = some (.slice 1 16) by kernel_rfl)) (by decide)
  ⟨Tryz.f88, Tryz.func88, by kernel_rfl, by kernel_rfl⟩ ⟨Tryz.f89, Tryz.func89, by kernel_rfl, by kernel_rfl⟩
  (fun blk off cap ss w h1 h2 h3 => Tryz.slices_Sort_string blk off cap ss w h1 h2 h3) (fun blk off cap zs w h1 h2 h3 => Tryz.slices_Compact_string blk off cap zs w h1 h2 h3) a b h
theorem famS : FamS X := ⟨fun G => sys G, fun _ => rfl⟩
theorem bodyF_Obl : ∀ G bs dep args r, BodyF X bs dep G fn_metric_Obligation args r → (X G).C metric_Obligation args r :=
 fun _ _ _ _ _ h => ev_of_bodyF Tryz.func19 tr_19 (fun _ _ _ _ h => h) (fun _ _ _ _ h => h) (fun _ => rfl) (fun _ _ ht => chkTL_get tl_ok ht) mixed h
theorem law41 (G : Nat → Option (List D)) (hG : G 0 = some (kws.map .str)) (hI : ItoaLaw (X G)) : Law41 (X G) where
 Z := sys G
 hG := hG
 hIt := before_it G
 hU := union_own G
 hI := hI
 hObl := fun s c args tag a b d e f => metric_Obligation_ev famS bodyF_Obl s c args tag a b d e f
end Go.Abs.Seat
end
section
set_option linter.unusedSimpArgs false
set_option linter.unusedVariables false
set_option linter.unusedSectionVars false
namespace Go.Proofs
open Go.Shelf
def Tryz.laysM171_ren : Go.Shelf.Ren := ⟨fun | 171 => 90 | 243 => 117 | 246 => 153 | 283 => 164 | 284 => 165 | 285 => 166 | 286 => 167 | 129 => 152 | 317 => 173 | 318 => 174 | 319 => 175 | 320 => 176 | 337 => 181 | 338 => 182 | n => n, fun | 3 => 3 | 9 => 9 | 2 => 2 | 4 => 4 | 171 => 215 | 0 => 0 | 53 => 205 | 37 => 217 | 5 => 5 | 173 => 218 | 212 => 223 | 51 => 203 | 20 => 20 | 213 => 224 | 46 => 180 | 232 => 226 | 233 => 227 | n => n, fun | 17 => 1 | 18 => 2 | 19 => 3 | n => n⟩
theorem Tryz.laysM171 : Go.Proofs.LaysM.n171 Tryz.prog Tryz.laysM171_ren := {
 mixed := by kernel_rfl
 f129 := Tryz.func152.trans (congrArg some (by kernel_rfl))
 f171 := Tryz.func90.trans (congrArg some (by kernel_rfl))
 f243 := Tryz.func117.trans (congrArg some (by kernel_rfl))
 f246 := Tryz.func153.trans (congrArg some (by kernel_rfl))
 f283 := Tryz.func164.trans (congrArg some (by kernel_rfl))
 f284 := Tryz.func165.trans (congrArg some (by kernel_rfl))
 f285 := Tryz.func166.trans (congrArg some (by kernel_rfl))
 f286 := Tryz.func167.trans (congrArg some (by kernel_rfl))
 f317 := Tryz.func173.trans (congrArg some (by kernel_rfl))
 f318 := Tryz.func174.trans (congrArg some (by kernel_rfl))
 f319 := Tryz.func175.trans (congrArg some (by kernel_rfl))
 f320 := Tryz.func176.trans (congrArg some (by kernel_rfl))
 f337 := Tryz.func181.trans (congrArg some (by kernel_rfl))
 f338 := Tryz.func182.trans (congrArg some (by kernel_rfl))
 t0 := Tryz.underlying0
 a0 := Tryz.isAgg0
 z0 := Tryz.sizeOf0
 v0 := Tryz.zeroValue0
 t2 := Tryz.underlying2
 a2 := Tryz.isAgg2
 z2 := Tryz.sizeOf2
 v2 := Tryz.zeroValue2
 t3 := Tryz.underlying3
 a3 := Tryz.isAgg3
 z3 := Tryz.sizeOf3
 v3 := Tryz.zeroValue3
 t4 := Tryz.underlying4
 a4 := Tryz.isAgg4
 z4 := Tryz.sizeOf4
 v4 := Tryz.zeroValue4
 t5 := Tryz.underlying5
 a5 := Tryz.isAgg5
 z5 := Tryz.sizeOf5
 v5 := Tryz.zeroValue5
 t9 := Tryz.underlying9
 a9 := Tryz.isAgg9
 z9 := Tryz.sizeOf9
 v9 := Tryz.zeroValue9
 t20 := Tryz.underlying20
 a20 := Tryz.isAgg20
 z20 := Tryz.sizeOf20
 v20 := Tryz.zeroValue20
 t37 := Tryz.underlying217
 a37 := Tryz.isAgg217
 z37 := Tryz.sizeOf217
 v37 := Tryz.zeroValue217
 t46 := Tryz.underlying180
 a46 := Tryz.isAgg180
 z46 := Tryz.sizeOf180
 v46 := Tryz.zeroValue180
 t51 := Tryz.underlying203
 a51 := Tryz.isAgg203
 z51 := Tryz.sizeOf203
 v51 := Tryz.zeroValue203
 t53 := Tryz.underlying205
 a53 := Tryz.isAgg205
 z53 := Tryz.sizeOf205
 v53 := Tryz.zeroValue205
 t171 := Tryz.underlying215
 a171 := Tryz.isAgg215
 z171 := Tryz.sizeOf215
 v171 := Tryz.zeroValue215
 t173 := Tryz.underlying218
 a173 := Tryz.isAgg218
 z173 := Tryz.sizeOf218
 v173 := Tryz.zeroValue218
 t212 := Tryz.underlying223
 a212 := Tryz.isAgg223
 z212 := Tryz.sizeOf223
 v212 := Tryz.zeroValue223
 t213 := Tryz.underlying224
 a213 := Tryz.isAgg224
 z213 := Tryz.sizeOf224
 t232 := Tryz.underlying226
 a232 := Tryz.isAgg226
 z232 := Tryz.sizeOf226
 v232 := Tryz.zeroValue226
 t233 := Tryz.underlying227
 a233 := Tryz.isAgg227
 z233 := Tryz.sizeOf227
 v233 := Tryz.zeroValue227
 g17 := by kernel_rfl
 g18 := by kernel_rfl
 g19 := by kernel_rfl
 i0 := by kernel_rfl
 i2 := by kernel_rfl
 i3 := by kernel_rfl
 i4 := by kernel_rfl
 i5 := by kernel_rfl
 i9 := by kernel_rfl
 i20 := by kernel_rfl
 i37 := by kernel_rfl
 i46 := by kernel_rfl
 i51 := by kernel_rfl
 i53 := by kernel_rfl
 i171 := by kernel_rfl
 i173 := by kernel_rfl
 i212 := by kernel_rfl
 i232 := by kernel_rfl
 i233 := by kernel_rfl
 m17 := by kernel_rfl
 m18 := by kernel_rfl
 m19 := by kernel_rfl }
open Go.RowKit Go.Sort Go.Lib in
theorem Tryz.strconv_Itoa (n : Int) (h0 : -9223372036854775808 ≤ n) (h1 : n ≤ 9223372036854775807) (w : World) (htab : Lib.TabIs Tryz.prog w "internal/strconv.uint64pow10" .u64 Lib.pow10Tab) :
  Calls Tryz.prog 90 #[.int .i64 n] w fun e w' => e = .returned (.string ⟨(Lib.itoa n).toArray⟩) ∧ ∃ k os, w' = grow (w.drewN k) os := Any.strconv_Itoa Tryz.laysM171 n h0 h1 w htab
end Go.Proofs
end
section
set_option linter.unusedSimpArgs false
set_option linter.unusedVariables false
set_option linter.unusedSectionVars false
namespace Go.Abs.Seat
open Go Go.Abs Go.Proofs
theorem itoa_of {G : Nat → Option (List D)} (hg : Tryz.prog.globalNamed "internal/strconv.uint64pow10" = some 1) (hlt : 1 < Tryz.prog.globals.size) (hen : Enters Tryz.prog strconv_Itoa) (hG : G 1 = some (Lib.pow10Tab.map (D.int .u64))) (n : Int) (hn : I64 n) :
  Ev Tryz.prog G strconv_Itoa [.one (.int .i64 n)] (.one (.str (Lib.itoa n))) := by
 refine ⟨hen, fun w S cargs hl hgl ha => ?_⟩
 have htab : Lib.TabIs Tryz.prog w "internal/strconv.uint64pow10" .u64 Lib.pow10Tab := tab_of_glob hg (hgl.1 1 _ hG) (hgl.2.2 1 _ hlt hG (by decide))
 obtain ⟨v, r, h1, h2, h3⟩ := ha
 simp only [RepCL] at h3
 subst h3
 have h2 : v = .int .i64 n := h2
 subst h2
 obtain rfl : cargs = #[.int .i64 n] := by cases cargs; simp_all
 have hlen := Lib.itoa_length_le n hn.1 hn.2
 refine (Tryz.strconv_Itoa n hn.1 hn.2 w htab).mono ?_
 rintro e w' ⟨rfl, k, os, rfl⟩
 have hb := Lib.below_grow w.heap.size w (Nat.le_refl _) k os
 refine ⟨_, S, rfl, ⟨_, rfl, rfl, by show (Lib.itoa n).toArray.size ≤ _; rw [List.size_toArray]; omega⟩, hb, fun _ _ h => h, fun _ _ h => .inl h, fun b o hs => ?_⟩
 obtain ⟨v, hv⟩ := hl b o hs
 exact ⟨v, (hb.cell (p := ⟨b, o, none⟩) (cell_lt hv)).trans hv⟩
end Go.Abs.Seat
end
section
set_option linter.unusedSimpArgs false
set_option linter.unusedVariables false
set_option linter.unusedSectionVars false
set_option maxRecDepth 100000
namespace Go.Abs.Seat
open Go Go.Abs Go.Proofs Go.Proofs.YtcjbgglnoelfcaaGreatDoor Go.RowKit Go.ChangeShapes
variable {H : Type} {enc : TypeId × Value → H} {w : World}
theorem bulkOk : BulkOk (Rows.uptoBulk (H := H)) Rows.uptoBulkAll where
 one d := by
  cases d with
  | lit l => cases l <;> simp only [Rows.uptoBulk] <;> omega
  | _ => simp only [Rows.uptoBulk]; omega
 str s := by simp only [Rows.uptoBulk]; omega
 slice a b := by simp only [Rows.uptoBulk]; omega
 agg a := by simp only [Rows.uptoBulk]; omega
 cons d r := by simp only [Rows.uptoBulkAll]; omega
theorem cs1 : ∀ t ∈ [3, 4, 9, 22, 26, 32, 33, 34, 35, 36, 37, 47, 53, 54, 55, 56, 57, 58, 61, 62, 63, 64, 67, 70, 73, 82, 83, 91, 92, 101, 154, 155, 249], Tryz.prog.cellsOf t = 1 := of_decide_eq_true (by kernel_rfl)
theorem c1 {t : Nat} (h : t ∈ [3, 4, 9, 22, 26, 32, 33, 34, 35, 36, 37, 47, 53, 54, 55, 56, 57, 58, 61, 62, 63, 64, 67, 70, 73, 82, 83, 91, 92, 101, 154, 155, 249] := by simp) : Tryz.prog.cellsOf t = 1 := cs1 t h
theorem c28 : Tryz.prog.cellsOf 28 = 4 := by kernel_rfl
theorem c94 : Tryz.prog.cellsOf 94 = 7 := by kernel_rfl
theorem c60 : Tryz.prog.cellsOf 60 = 6 := by kernel_rfl
theorem c69 : Tryz.prog.cellsOf 69 = 25 := by kernel_rfl
theorem c41 : Tryz.prog.cellsOf 41 = 14 := by kernel_rfl
theorem c39 : Tryz.prog.cellsOf 39 = 9 := by kernel_rfl
theorem c117 : Tryz.prog.cellsOf 117 = 2 := by kernel_rfl
theorem c157 : Tryz.prog.cellsOf 157 = 4 := by kernel_rfl
theorem c182 : Tryz.prog.cellsOf 182 = 3 := by kernel_rfl
theorem c103 : Tryz.prog.cellsOf 103 = 8 := by kernel_rfl
theorem c105 : Tryz.prog.cellsOf 105 = 6 := by kernel_rfl
theorem c66 : Tryz.prog.cellsOf 66 = 7 := by kernel_rfl
theorem c43 : Tryz.prog.cellsOf 43 = 2 := by kernel_rfl
theorem c80 : Tryz.prog.cellsOf 80 = 3 := by kernel_rfl
theorem rd_pred (n : Nat) : ReadsAt enc Tryz.prog w Rows.uptoBulk n 28 Pred.cells Pred.sz :=
 reads_pred bulkOk Tryz.underlying28 Tryz.underlying26 Tryz.underlying9 Tryz.underlying3 Tryz.underlying22 c28 c1 c1 c1 c1 n
theorem rd_preds (n : Nat) : ReadsAt enc Tryz.prog w Rows.uptoBulk n 22 (fun l : List Pred => [.lst (l.map Pred.cells)]) (fun l => (l.map Pred.sz).sum + 1) :=
 reads_slice' bulkOk Tryz.underlying22 (by rw [c28]; decide) (fun x => by rw [c28]; exact Pred.cells_length x) rd_pred n
theorem rd_str (n : Nat) : ReadsAt enc Tryz.prog w Rows.uptoBulk n 9 (fun x : List UInt8 => [.str x]) (fun x => x.length + 1) := reads_str bulkOk Tryz.underlying9
theorem anyOk : [3, 4, 9, 22, 26, 27, 28, 32, 33, 34, 35, 36, 37, 38, 39, 40, 41, 47, 54, 55, 57, 58, 61, 62, 63, 64, 65, 66, 67, 68, 69, 70, 91, 92, 93, 94, 154, 243, 244, 245, 246, 247, 248, 249, 250, 251, 252, 253, 254, 255, 256, 257, 258, 259, 260, 261, 262, 264].all (plainT Tryz.prog [3, 4, 9, 22, 26, 27, 28, 32, 33, 34, 35, 36, 37, 38, 39, 40, 41, 47, 54, 55, 57, 58, 61, 62, 63, 64, 65, 66, 67, 68, 69, 70, 91, 92, 93, 94, 154, 243, 244, 245, 246, 247, 248, 249, 250, 251, 252, 253, 254, 255, 256, 257, 258, 259, 260, 261, 262, 264]) = true := by kernel_rfl
theorem rd_any {t : Nat} (n : Nat) (h : t ∈ [3, 4, 9, 22, 26, 27, 28, 32, 33, 34, 35, 36, 37, 38, 39, 40, 41, 47, 54, 55, 57, 58, 61, 62, 63, 64, 65, 66, 67, 68, 69, 70, 91, 92, 93, 94, 154, 243, 244, 245, 246, 247, 248, 249, 250, 251, 252, 253, 254, 255, 256, 257, 258, 259, 260, 261, 262, 264] := by simp) (h1 : t ∈ [3, 4, 9, 22, 26, 32, 33, 34, 35, 36, 37, 47, 53, 54, 55, 56, 57, 58, 61, 62, 63, 64, 67, 70, 73, 82, 83, 91, 92, 101, 154, 155, 249] := by simp) : ReadsAt enc Tryz.prog w Rows.uptoBulk n t (fun x : D => [x]) (fun _ => 0) := reads_one bulkOk anyOk h (c1 h1) n
theorem rd_strs (n : Nat) : ReadsAt enc Tryz.prog w Rows.uptoBulk n 32 (fun l : List (List UInt8) => [.lst (l.map fun k => [.str k])]) (fun l => (l.map fun k => k.length + 1).sum + 1) := reads_slice' bulkOk Tryz.underlying32 (by rw [c1]; decide) (fun x => by rw [c1]; rfl) rd_str n
theorem rd_int (n : Nat) : ReadsAt enc Tryz.prog w Rows.uptoBulk n 3 (fun x : Int => [.int .i64 x]) (fun _ => 1) := reads_int bulkOk Tryz.underlying3
theorem rd_ints (n : Nat) : ReadsAt enc Tryz.prog w Rows.uptoBulk n 73 (fun l : List Int => [.lst (l.map icell)]) (fun l => (l.map fun _ => 1).sum + 1) := reads_slice' bulkOk Tryz.underlying73 (by rw [c1]; decide) (fun x => by rw [c1]; rfl) (fun n => reads_map (rd_int n) (fun x => x) (fun _ => rfl) (fun _ => Nat.le_refl _)) n
theorem rd_val (n : Nat) : ReadsAt enc Tryz.prog w Rows.uptoBulk n 94 Val.cells (fun _ => 0) := by
 induction n using Nat.strongRecOn with | _ n ih =>
 cases n with
 | zero => exact reads_zero
 | succ n =>
  have hk : ReadsAt enc Tryz.prog w Rows.uptoBulk n 70 (fun l : List Val => [.lst (l.map Val.cells)]) (fun _ => 0) := by
   cases n with
   | zero => exact reads_zero
   | succ m => exact reads_map (reads_slice bulkOk Tryz.underlying70 (by rw [c94]; decide) (fun x => by rw [c94]; exact Val.cells_length x) (ih m (by omega))) (fun l => l) (fun _ => rfl) (fun _ => Nat.zero_le _)
  have h := reads_rec7 bulkOk Tryz.underlying94 c94 c1 (fun _ => rfl) (reads_int (k := .i64) bulkOk Tryz.underlying91) c1 (fun _ => rfl) (reads_int (k := .i64) bulkOk Tryz.underlying3) c1 (fun _ => rfl) (reads_str bulkOk Tryz.underlying9) c1 (fun _ => rfl) hk c1 (fun _ => rfl) (rd_any n) c1 (fun _ => rfl) (rd_any n) c1 (fun _ => rfl) (rd_any n)
  exact reads_map h (fun x => Val.mk x.1 x.2.1 x.2.2.1 x.2.2.2.1 x.2.2.2.2.1 x.2.2.2.2.2.1 x.2.2.2.2.2.2.1) (fun x => by rw [Val.cells_mk]; rfl) (fun _ => Nat.zero_le _)
theorem rd_vals (n : Nat) : ReadsAt enc Tryz.prog w Rows.uptoBulk n 70 (fun l : List Val => [.lst (l.map Val.cells)]) (fun l => (l.map fun _ => 0).sum + 1) := reads_slice' bulkOk Tryz.underlying70 (by rw [c94]; decide) (fun x => by rw [c94]; exact Val.cells_length x) rd_val n
theorem rd_con : ∀ n, ReadsAt enc Tryz.prog w Rows.uptoBulk n 182 ConT.cells (fun _ => 0)
 | 0 => reads_zero
 | n + 1 => reads_map (reads_rec3 bulkOk Tryz.underlying182 c182 c1 (fun _ => rfl) (reads_str bulkOk Tryz.underlying9) c1 (fun _ => rfl) (rd_any n) c1 (fun _ => rfl) (rd_any n)) (fun x => ConT.mk x.1 x.2.1 x.2.2.1) (fun x => rfl) (fun x => Nat.zero_le _)
theorem rd_cons (n : Nat) : ReadsAt enc Tryz.prog w Rows.uptoBulk n 155 (fun l : List ConT => [.lst (l.map ConT.cells)]) (fun l => (l.map (fun _ => 0)).sum + 1) := reads_slice' bulkOk Tryz.underlying155 (by rw [c182]; decide) (fun x => by rw [c182]; exact rfl) rd_con n
theorem rd_data : ∀ n, ReadsAt enc Tryz.prog w Rows.uptoBulk n 157 DataT.cells (fun _ => 0)
 | 0 => reads_zero
 | n + 1 => reads_map (reads_rec4 bulkOk Tryz.underlying157 c157 c1 (fun _ => rfl) (reads_str bulkOk Tryz.underlying9) c1 (fun _ => rfl) (rd_any n) c1 (fun _ => rfl) (rd_any n) c1 (fun _ => rfl) (rd_cons n)) (fun x => DataT.mk x.1 x.2.1 x.2.2.1 x.2.2.2.1) (fun x => rfl) (fun x => Nat.zero_le _)
theorem rd_datas (n : Nat) : ReadsAt enc Tryz.prog w Rows.uptoBulk n 53 (fun l : List DataT => [.lst (l.map DataT.cells)]) (fun l => (l.map (fun _ => 0)).sum + 1) := reads_slice' bulkOk Tryz.underlying53 (by rw [c157]; decide) (fun x => by rw [c157]; exact rfl) rd_data n
theorem len_sum : ∀ l : List (List UInt8), l.length ≤ (l.map fun k => k.length + 1).sum
 | [] => Nat.le_refl _
 | k :: l => by have := len_sum l; simp only [List.length_cons, List.map_cons, List.sum_cons]; omega
def szC (c : Cas) : Nat := c.body.sz + c.names.length + 1
def szM (m : Meas) : Nat := (m.cases.map szC).sum
def szMod (m : Mod) : Nat := (m.meas.map szM).sum
def szS (s : SigT) : Nat := (s.metric.map Pred.sz).sum + s.names.length + 1
def szD (d : DefT) : Nat := szS d.sig
theorem rd_case : ∀ n, ReadsAt enc Tryz.prog w Rows.uptoBulk n 105 Cas.cells szC
 | 0 => reads_zero
 | n + 1 => reads_map (reads_rec3 bulkOk Tryz.underlying105 c105 c1 (fun _ => rfl) (reads_str bulkOk Tryz.underlying9) c1 (fun _ => rfl) (rd_strs n) c28 (fun x => Pred.cells_length x) (rd_pred n)) (fun x => Cas.mk x.1 x.2.1 x.2.2.1) (fun x => by simp [Cas.cells]) (fun x => by have := len_sum x.2.1; simp only [szC]; omega)
theorem rd_cases (n : Nat) : ReadsAt enc Tryz.prog w Rows.uptoBulk n 101 (fun l : List Cas => [.lst (l.map Cas.cells)]) (fun l => (l.map szC).sum + 1) := reads_slice' bulkOk Tryz.underlying101 (by rw [c105]; decide) (fun x => by rw [c105]; exact Cas.cells_length x) rd_case n
theorem rd_meas : ∀ n, ReadsAt enc Tryz.prog w Rows.uptoBulk n 103 Meas.cells szM
 | 0 => reads_zero
 | n + 1 => reads_map (reads_rec5 bulkOk Tryz.underlying103 c103 c1 (fun _ => rfl) (reads_str bulkOk Tryz.underlying9) c1 (fun _ => rfl) (reads_str bulkOk Tryz.underlying9) c1 (fun _ => rfl) (reads_str bulkOk Tryz.underlying47) c1 (fun _ => rfl) (rd_cases n) c28 (fun x => Pred.cells_length x) (rd_pred n)) (fun x => Meas.mk x.1 x.2.1 x.2.2.1 x.2.2.2.1 x.2.2.2.2.1) (fun x => by simp [Meas.cells]) (fun x => by simp only [szM]; omega)
theorem rd_meass (n : Nat) : ReadsAt enc Tryz.prog w Rows.uptoBulk n 56 (fun l : List Meas => [.lst (l.map Meas.cells)]) (fun l => (l.map szM).sum + 1) := reads_slice' bulkOk Tryz.underlying56 (by rw [c103]; decide) (fun x => by rw [c103]; exact Meas.cells_length x) rd_meas n
theorem rd_mod : ∀ n, ReadsAt enc Tryz.prog w Rows.uptoBulk n 60 Mod.cells szMod
 | 0 => reads_zero
 | n + 1 => reads_map (reads_rec6 bulkOk Tryz.underlying60 c60 c1 (fun _ => rfl) (rd_datas n) c1 (fun _ => rfl) (rd_any n) c1 (fun _ => rfl) (rd_any n) c1 (fun _ => rfl) (rd_meass n) c1 (fun _ => rfl) (rd_any n) c1 (fun _ => rfl) (rd_any n)) (fun x => Mod.mk x.1 x.2.1 x.2.2.1 x.2.2.2.1 x.2.2.2.2.1 x.2.2.2.2.2.1) (fun x => rfl) (fun x => by simp only [szMod]; omega)
structure TyT where
 op : Int
 name : List UInt8
 args : D
 names : List (List UInt8)
 pred : Pred
 preds : D
def TyT.cells (t : TyT) : List D := .int .i64 t.op :: .str t.name :: t.args :: .lst (t.names.map fun k => [.str k]) :: (t.pred.cells ++ [t.preds])
def szT (t : TyT) : Nat := t.names.length
theorem TyT.len (t : TyT) : t.cells.length = 9 := by simp [TyT.cells, Pred.cells_length]
theorem rd_type : ∀ n, ReadsAt enc Tryz.prog w Rows.uptoBulk n 39 TyT.cells szT
 | 0 => reads_zero
 | n + 1 => reads_map (reads_rec6 bulkOk Tryz.underlying39 c39 c1 (fun _ => rfl) (reads_int (k := .i64) bulkOk Tryz.underlying36) c1 (fun _ => rfl) (reads_str bulkOk Tryz.underlying9) c1 (fun _ => rfl) (rd_any n) c1 (fun _ => rfl) (rd_strs n) c28 (fun x => Pred.cells_length x) (rd_pred n) c1 (fun _ => rfl) (rd_any n)) (fun x => TyT.mk x.1 x.2.1 x.2.2.1 x.2.2.2.1 x.2.2.2.2.1 x.2.2.2.2.2.1) (fun x => by simp [TyT.cells]) (fun x => by have := len_sum x.2.2.2.1; simp only [szT]; omega)
theorem rd_sig : ∀ n, ReadsAt enc Tryz.prog w Rows.uptoBulk n 41 SigT.cells szS
 | 0 => reads_zero
 | n + 1 => reads_map (reads_rec6 bulkOk Tryz.underlying41 c41 c1 (fun _ => rfl) (rd_any n) c1 (fun _ => rfl) (rd_any n) c1 (fun _ => rfl) (rd_any n) c1 (fun _ => rfl) (rd_any n) c39 TyT.len (rd_type n) c1 (fun _ => rfl) (rd_preds n)) (fun x => SigT.mk x.1 x.2.1 x.2.2.1 x.2.2.2.1 (.int .i64 x.2.2.2.2.1.op) (.str x.2.2.2.2.1.name) x.2.2.2.2.1.args x.2.2.2.2.1.names (.int .i64 x.2.2.2.2.1.pred.op) (.str x.2.2.2.2.1.pred.name) (.int .i64 x.2.2.2.2.1.pred.n) (.lst (x.2.2.2.2.1.pred.kids.map Pred.cells)) x.2.2.2.2.1.preds x.2.2.2.2.2.1) (fun x => by simp only [SigT.cells, TyT.cells]; rw [Pred.cells_eq]; rfl) (fun x => by simp only [szS, szT]; omega)
theorem rd_body (n : Nat) : ReadsAt enc Tryz.prog w Rows.uptoBulk n 66 (anyC (n := 7)) (fun _ => 0) := by
 have h := reads_any (enc := enc) (w := w) (bulk := Rows.uptoBulk) (all := Rows.uptoBulkAll) bulkOk anyOk n 66 (by simp)
 rw [c66] at h
 exact h
theorem cells7 (x : Cells 7) : anyC x = [x.1.getD 0 (.bool false), x.1.getD 1 (.bool false), x.1.getD 2 (.bool false), x.1.getD 3 (.bool false), x.1.getD 4 (.bool false), x.1.getD 5 (.bool false), x.1.getD 6 (.bool false)] := by
 obtain ⟨l, hl⟩ := x
 match l, hl with
 | [a0, a1, a2, a3, a4, a5, a6], _ => rfl
theorem rd_def : ∀ n, ReadsAt enc Tryz.prog w Rows.uptoBulk n 69 DefT.cells szD
 | 0 => reads_zero
 | n + 1 => reads_map (reads_rec6 bulkOk Tryz.underlying69 c69 c1 (fun _ => rfl) (reads_str bulkOk Tryz.underlying9) c1 (fun _ => rfl) (rd_any n) c66 (fun x => x.2) (rd_body n) c1 (fun _ => rfl) (reads_int (k := .i64) bulkOk Tryz.underlying67) c1 (fun _ => rfl) (reads_bool bulkOk Tryz.underlying4) c41 (fun _ => rfl) (rd_sig n)) (fun x => DefT.mk (.str x.1) x.2.1 (x.2.2.1.1.getD 0 (.bool false)) (x.2.2.1.1.getD 1 (.bool false)) (x.2.2.1.1.getD 2 (.bool false)) (x.2.2.1.1.getD 3 (.bool false)) (x.2.2.1.1.getD 4 (.bool false)) (x.2.2.1.1.getD 5 (.bool false)) (x.2.2.1.1.getD 6 (.bool false)) (.int .i64 x.2.2.2.1) (.bool x.2.2.2.2.1) x.2.2.2.2.2.1) (fun x => by rw [cells7]; rfl) (fun x => by simp only [szD]; omega)
theorem rd_coef : ∀ n, ReadsAt enc Tryz.prog w Rows.uptoBulk n 117 Coef.cells (fun _ => 0)
 | 0 => reads_zero
 | n + 1 => reads_map (reads_rec2 bulkOk Tryz.underlying117 c117 c1 (fun _ => rfl) (reads_str bulkOk Tryz.underlying9) c1 (fun _ => rfl) (reads_int (k := .i64) bulkOk Tryz.underlying3)) (fun x => Coef.mk x.1 x.2.1) (fun x => rfl) (fun x => Nat.zero_le _)
theorem rd_point (n : Nat) : ReadsAt enc Tryz.prog w Rows.uptoBulk n 83 (fun l : List Coef => [.lst (l.map Coef.cells)]) (fun l => (l.map fun _ => 0).sum + 1) := reads_slice' bulkOk Tryz.underlying83 (by rw [c117]; decide) (fun x => by rw [c117]; rfl) rd_coef n
structure CallT where
 args : List Pred
 tag : Int
def CallT.cells (c : CallT) : List D := [.lst (c.args.map Pred.cells), .int .i64 c.tag]
def szCall (c : CallT) : Nat := (c.args.map Pred.sz).sum + 1
theorem rd_call : ∀ n, ReadsAt enc Tryz.prog w Rows.uptoBulk n 43 CallT.cells szCall
 | 0 => reads_zero
 | n + 1 => reads_map (reads_rec2 bulkOk Tryz.underlying43 c43 c1 (fun _ => rfl) (rd_preds n) c1 (fun _ => rfl) (rd_int n)) (fun x => CallT.mk x.1 x.2.1) (fun x => rfl) (fun x => by simp only [szCall]; omega)
structure FurT where
 front : Int
 left : List Int
 right : List Int
def FurT.cells (c : FurT) : List D := [.int .i64 c.front, .lst (c.left.map icell), .lst (c.right.map icell)]
theorem rd_fur : ∀ n, ReadsAt enc Tryz.prog w Rows.uptoBulk n 80 FurT.cells (fun _ => 0)
 | 0 => reads_zero
 | n + 1 => reads_map (reads_rec3 bulkOk Tryz.underlying80 c80 c1 (fun _ => rfl) (rd_int n) c1 (fun _ => rfl) (rd_ints n) c1 (fun _ => rfl) (rd_ints n)) (fun x => FurT.mk x.1 x.2.1 x.2.2.1) (fun x => rfl) (fun x => Nat.zero_le _)
theorem gk : Tryz.prog.globalNamed "liquidcheck/names.keywords" = some 0 := by kernel_rfl
theorem gkType : (Tryz.prog.globals[0]?).map (·.type) = some 208 := by kernel_rfl
theorem gkCells : Tryz.prog.cellsOf 208 = 42 := by kernel_rfl
theorem strCells : Tryz.prog.cellsOf 9 = 1 := by kernel_rfl
theorem kws_data : (Rows.laid_liquidcheck_names_keywords (H := Unit)) = strsData kws := by kernel_rfl
theorem kws_glob {r : List (String × DataW Unit)} (h : laidMet Tryz.prog (("liquidcheck/names.keywords", Rows.laid_liquidcheck_names_keywords) :: r) w) : RepCs w (liveS w) 0 0 (kws.map D.str) ∧ ∃ (vs : Array Value) (e : TypeId) (fr : Nat × Nat), w.heap[0]? = some (.cells vs e fr) ∧ vs.size = (kws.map D.str).length := strs_glob gk gkType Tryz.underlying208 Tryz.underlying9 strCells gkCells (ss := kws) (rest := r) (by rw [kws_data] at h; exact h)
theorem glob0 (hS : w.ShapedOpen Tryz.prog) (h : laidMet Tryz.prog [("liquidcheck/names.keywords", Rows.laid_liquidcheck_names_keywords)] w) : GlobOk Tryz.prog G0 w (liveS w) := by
 have hk := kws_glob h
 have key : ∀ g cs, G0 g = some cs → RepCs w (liveS w) g 0 cs ∧ ∃ (vs : Array Value) (e : TypeId) (fr : Nat × Nat), w.heap[g]? = some (.cells vs e fr) ∧ vs.size = cs.length := by
  intro g cs hg
  unfold G0 at hg
  by_cases h0 : g = 0
  ·subst h0
   rw [if_pos rfl] at hg
   obtain rfl := Option.some.inj hg
   exact hk
  ·rw [if_neg h0] at hg; cases hg
 exact ⟨fun g cs hg => (key g cs hg).1, globals_le hS, fun g cs _ hg _ => (key g cs hg).2⟩
def G1 : Nat → Option (List D) := fun g => if g = 0 then some (kws.map .str) else if g = 1 then some (Lib.pow10Tab.map (D.int .u64)) else none
theorem pow_named : Tryz.prog.globalNamed "internal/strconv.uint64pow10" = some 1 := by kernel_rfl
theorem pow_data : (Rows.laid_internal_strconv_uint64pow10 (H := Unit)) = Lib.tabData .u64 Lib.pow10Tab := by kernel_rfl
theorem glob1 (hS : w.ShapedOpen Tryz.prog) (h : laidMet Tryz.prog [("math/bits.deBruijn32tab", Rows.laid_math_bits_deBruijn32tab), ("math/bits.deBruijn64tab", Rows.laid_math_bits_deBruijn64tab), ("internal/strconv.uint64pow10", Rows.laid_internal_strconv_uint64pow10), ("liquidcheck/names.keywords", Rows.laid_liquidcheck_names_keywords)] w) : GlobOk Tryz.prog G1 w (liveS w) := by
 have h2 := laidMet_tail (laidMet_tail h)
 have hk := kws_glob (laidMet_tail h2)
 rw [pow_data] at h2
 have ht := tab_glob pow_named (Lib.tabIs_of_head pow_named (by kernel_rfl) Tryz.underlying223 Tryz.underlying205 (by kernel_rfl) (by kernel_rfl) h2)
 have key : ∀ g cs, G1 g = some cs → RepCs w (liveS w) g 0 cs ∧ ∃ (vs : Array Value) (e : TypeId) (fr : Nat × Nat), w.heap[g]? = some (.cells vs e fr) ∧ vs.size = cs.length := by
  intro g cs hg
  unfold G1 at hg
  by_cases h0 : g = 0
  ·subst h0
   rw [if_pos rfl] at hg
   obtain rfl := Option.some.inj hg
   exact hk
  ·rw [if_neg h0] at hg
   by_cases h1 : g = 1
   ·subst h1
    rw [if_pos rfl] at hg
    obtain rfl := Option.some.inj hg
    exact ht
   ·rw [if_neg h1] at hg; cases hg
 exact ⟨fun g cs hg => (key g cs hg).1, globals_le hS, fun g cs _ hg _ => (key g cs hg).2⟩
theorem law41G : Law41 (X G1) := law41 G1 rfl fun n hn => itoa_of pow_named (of_decide_eq_true (by kernel_rfl)) ⟨Tryz.f90, Tryz.func90, by kernel_rfl, by kernel_rfl⟩ rfl n hn
theorem upto_mem : ∀ {ds : List (DataW H)} {d : DataW H}, Rows.uptoBulkAll ds ≤ 1048576 → d ∈ ds → Rows.uptoBulk d ≤ 1048576
 | [], _, _, h => by cases h
 | x :: ds, d, hs, h => by
  rw [Rows.uptoBulkAll] at hs
  rcases List.mem_cons.1 h with rfl | h
  ·omega
  ·exact upto_mem (by omega) h
theorem small_cnt {ds : List (DataW H)} {p : Pred} {d : DataW H} (h : Pred.sz p ≤ Rows.uptoBulk d) (hs : Rows.uptoSmall H ds = true) (hd : d ∈ ds) : p.cnt < 2 ^ 62 := by
 have h1 := Pred.cnt_sz p
 have h2 := upto_mem (of_decide_eq_true hs) hd
 omega
theorem small_big {ds : List (DataW H)} {p : Pred} {d : DataW H} (h : Pred.sz p ≤ Rows.uptoBulk d) (hs : Rows.uptoSmall H ds = true) (hd : d ∈ ds) : p.cnt ≤ 1048576 := by
 have h1 := Pred.cnt_sz p
 have h2 := upto_mem (of_decide_eq_true hs) hd
 omega
theorem sum_mem {α : Type} (f : α → Nat) : ∀ {l : List α} {x : α}, x ∈ l → f x ≤ (l.map f).sum
 | a :: l, x, h => by
  rw [List.map_cons, List.sum_cons]
  rcases List.mem_cons.1 h with rfl | h
  ·omega
  ·have := sum_mem f h; omega
theorem small_each {ds : List (DataW H)} {l : List Pred} {d : DataW H} (h : (l.map Pred.sz).sum + 1 ≤ Rows.uptoBulk d) (hs : Rows.uptoSmall H ds = true) (hd : d ∈ ds) : ∀ p ∈ l, p.cnt ≤ 1048576 := by
 intro p hp
 have h1 := Pred.cnt_sz p
 have h2 := upto_mem (of_decide_eq_true hs) hd
 have h3 := sum_mem Pred.sz hp
 omega
theorem each_tame {ds : List (DataW H)} {l : List Pred} {d : DataW H} (h : (l.map Pred.sz).sum + 1 ≤ Rows.uptoBulk d) (hs : Rows.uptoSmall H ds = true) (hd : d ∈ ds) : ∀ p ∈ l, Tame p := fun p hp => tame_of_cnt _ (small_each h hs hd p hp)
theorem len_sz : ∀ l : List Pred, l.length ≤ (l.map Pred.sz).sum
 | [] => Nat.le_refl _
 | p :: l => by
  have := len_sz l
  have h1 : 1 ≤ p.sz := by cases p; unfold Pred.sz; omega
  simp only [List.length_cons, List.map_cons, List.sum_cons]; omega
theorem small_len {ds : List (DataW H)} {l : List Pred} {d : DataW H} (h : (l.map Pred.sz).sum + 1 ≤ Rows.uptoBulk d) (hs : Rows.uptoSmall H ds = true) (hd : d ∈ ds) : l.length ≤ 1048576 := by
 have := len_sz l
 have := upto_mem (of_decide_eq_true hs) hd
 omega
theorem mod_ok {ds : List (DataW H)} {m : Mod} {d : DataW H} (h : szMod m ≤ Rows.uptoBulk d) (hs : Rows.uptoSmall H ds = true) (hd : d ∈ ds) : MOk m := fun x hx c hc => by
 have h1 := Pred.cnt_sz c.body
 have h2 := upto_mem (of_decide_eq_true hs) hd
 have h3 := sum_mem szM hx
 have h4 := sum_mem szC hc
 have h5 : szM x = (x.cases.map szC).sum := rfl
 have h6 : szMod m = (m.meas.map szM).sum := rfl
 have h7 : szC c = c.body.sz + c.names.length + 1 := rfl
 omega
theorem sig_small {ds : List (DataW H)} {s : SigT} {d : DataW H} (h : szS s ≤ Rows.uptoBulk d) (hs : Rows.uptoSmall H ds = true) (hd : d ∈ ds) : (∀ t ∈ s.metric, t.cnt < 1048576) ∧ s.metric.length ≤ 1048576 ∧ s.names.length ≤ 1048576 := by
 have h2 := upto_mem (of_decide_eq_true hs) hd
 have h3 : szS s = (s.metric.map Pred.sz).sum + s.names.length + 1 := rfl
 have h4 := len_sz s.metric
 refine ⟨fun t ht => ?_, by omega, by omega⟩
 have h5 := sum_mem Pred.sz ht
 have h6 := Pred.cnt_sz t
 omega
theorem sig_tame {ds : List (DataW H)} {s : SigT} {d : DataW H} (h : szS s ≤ Rows.uptoBulk d) (hs : Rows.uptoSmall H ds = true) (hd : d ∈ ds) : ∀ t ∈ s.metric, Tame t := fun t ht => tame_of_cnt _ (Nat.le_of_lt ((sig_small h hs hd).1 t ht))
theorem call_tame {ds : List (DataW H)} {c : CallT} {d : DataW H} (h : szCall c ≤ Rows.uptoBulk d) (hs : Rows.uptoSmall H ds = true) (hd : d ∈ ds) : ∀ t ∈ c.args, Tame t := each_tame (l := c.args) h hs hd
theorem own : ownKnob Tryz.prog.godebug = none := by kernel_rfl
theorem laidOut : laidOutB Tryz.prog = true := by kernel_rfl
def valsOf : List (DataW Unit) → List Value
 | [] => []
 | .lit (.string s) :: r => .string ⟨s.toArray⟩ :: valsOf r
 | .lit (.int k n) :: r => .int k n :: valsOf r
 | _ :: r => valsOf r
def cellsOfD : DataW Unit → List Value
 | .agg l => valsOf l
 | _ => []
def layAll : Array Obj → List (Nat × DataW Unit) → Array Obj
 | h, [] => h
 | h, (g, d) :: r => layAll (h.modify g fun
   | .cells _ t frozen => .cells (cellsOfD d).toArray t frozen
   | o => o) r
noncomputable def laidWorld (os : Os) : World :=
 { World.holding Tryz.prog os ⟨#[], #[], []⟩ with heap := layAll (World.holding Tryz.prog os ⟨#[], #[], []⟩).heap [(0, Rows.laid_liquidcheck_names_keywords), (1, Rows.laid_internal_strconv_uint64pow10), (2, Rows.laid_math_bits_deBruijn32tab), (3, Rows.laid_math_bits_deBruijn64tab)] }
end Go.Abs.Seat
end

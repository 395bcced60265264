/-
  THE DOOR: arguments that a statement reads as data are data of the abstract machine; the functions here are those of the program.
-/
import Derived.OpenShut
import Derived.Deep.DeepHandedRow
import Derived.Lib.LaidTab
import Derived.Carry
import Derived.ChangeCalls
import Derived.KernelRfl
import Derived.Test.YtehngpkgdcnkiaaGreatDoorProg
import Derived.Shelf.Sort.Plain
import Derived.Shelf.Slices.CompactS
import Derived.Shelf.Slices.Cells
import Derived.Shelf.Slices.In.SortNone
import Derived.Shelf.Slices.Empties2
import Derived.Shelf.LaysM
import Derived.Shelf.Strconv.Itoa3
import Derived.Lib.AppendIntMem
import Derived.Test.YtehngpkgdcnkiaaGreatDoorCards
import Derived.Test.YtehngpkgdcnkiaaGreatDoorTie
import Derived.WalkKit
import Derived.ProofKit
import Derived.Test.YtehngpkgdcnkiaaGreatDoorCon3
set_option linter.unusedSimpArgs false
set_option linter.unusedVariables false
set_option linter.unusedSectionVars false
set_option maxRecDepth 100000
section
namespace Go.Abs
open Go.RowKit
variable {H : Type} {enc : TypeId × Value → H} {P : Program} {w : World}
def liveS (w : World) : Safe := fun b o => ∃ v, w.cell? ⟨b, o, none⟩ = some v
structure BulkOk (bulk : DataW H → Nat) (all : List (DataW H) → Nat) : Prop where
 one : ∀ d, 1 ≤ bulk d
 str : ∀ s, s.length + 1 ≤ bulk (.lit (.string s))
 slice : ∀ a b, all a + 1 ≤ bulk (.slice a b)
 agg : ∀ a, all a + 1 ≤ bulk (.agg a)
 cons : ∀ d r, bulk d + all r ≤ all (d :: r)
variable {bulk : DataW H → Nat} {all : List (DataW H) → Nat}
def ReadsAt (enc : TypeId × Value → H) (P : Program) (w : World) (bulk : DataW H → Nat) (n : Nat) (t : TypeId) {α : Type} (f : α → List D) (sz : α → Nat) : Prop :=
 ∀ cs d ps, DataW.trod enc P w 0 (fun _ => true) true n t cs = some (d, ps) → ∃ x : α, RepL w (liveS w) (f x) cs ∧ sz x ≤ bulk d
theorem reads_map {n : Nat} {t : TypeId} {α β : Type} {f : α → List D} {sz : α → Nat} {g : β → List D} {sz' : β → Nat} (h : ReadsAt enc P w bulk n t f sz) (φ : α → β) (hf : ∀ x, g (φ x) = f x) (hs : ∀ x, sz' (φ x) ≤ sz x) : ReadsAt enc P w bulk n t g sz' := fun cs d ps hr => by
 obtain ⟨x, h1, h2⟩ := h cs d ps hr
 exact ⟨φ x, by rw [hf]; exact h1, Nat.le_trans (hs x) h2⟩
theorem reads_int (hb : BulkOk bulk all) {k : IntKind} {n : Nat} {t : TypeId} (ht : P.underlying t = some (.int k)) : ReadsAt enc P w bulk n t (fun x : Int => [.int k x]) (fun _ => 1) := by
 intro cs d ps h
 cases n with
 | zero => cases h
 | succ n =>
  unfold DataW.trod at h
  rw [ht] at h
  split at h <;> (try (cases h; done)) <;> rename_i h1 <;> cases h1
  rename_i k' m
  split at h
  ·rename_i hk
   obtain ⟨rfl, _⟩ := hk
   exact ⟨m, ⟨_, _, rfl, rfl, rfl⟩, hb.one _⟩
  ·cases h
theorem reads_bool (hb : BulkOk bulk all) {n : Nat} {t : TypeId} (ht : P.underlying t = some .bool) : ReadsAt enc P w bulk n t (fun x : Bool => [.bool x]) (fun _ => 1) := by
 intro cs d ps h
 cases n with
 | zero => cases h
 | succ n =>
  unfold DataW.trod at h
  rw [ht] at h
  split at h <;> (try (cases h; done)) <;> rename_i h1 <;> cases h1
  rename_i b
  exact ⟨b, ⟨_, _, rfl, rfl, rfl⟩, hb.one _⟩
theorem reads_str (hb : BulkOk bulk all) {n : Nat} {t : TypeId} (ht : P.underlying t = some .string) : ReadsAt enc P w bulk n t (fun x : List UInt8 => [.str x]) (fun x => x.length + 1) := by
 intro cs d ps h
 cases n with
 | zero => cases h
 | succ n =>
  unfold DataW.trod at h
  rw [ht] at h
  split at h <;> (try (cases h; done)) <;> rename_i h1 <;> cases h1
  rename_i s
  split at h
  ·rename_i hk
   cases h
   exact ⟨s.data.toList, ⟨_, _, rfl, ⟨s, rfl, rfl, by simpa [maxLen] using hk⟩, rfl⟩, hb.str _⟩
  ·cases h
theorem mapM_reads {α : Type} {f : α → List D} {sz : α → Nat} (hb : BulkOk bulk all) {n : Nat} {e : TypeId} (he : ReadsAt enc P w bulk n e f sz) (g : Nat → Option (List Value)) :
  ∀ (is : List Nat) {xs : List (DataW H × List MemPlace)}, (is.mapM fun i => (g i).bind (DataW.trod enc P w 0 (fun _ => true) true n e)) = some xs →
   ∃ l : List α, l.length = is.length ∧ (∀ k (h : k < is.length), ∃ cs, g is[k] = some cs ∧ ∃ (h' : k < l.length), RepL w (liveS w) (f l[k]) cs) ∧ (l.map sz).sum ≤ all (xs.map (·.1))
 | [], xs, h => by simp at h; subst h; exact ⟨[], rfl, by simp, by simp⟩
 | i :: is, xs, h => by
  simp only [List.mapM_cons, Option.bind_eq_bind, Option.bind_eq_some_iff, Option.pure_def, Option.some.injEq] at h
  obtain ⟨⟨d, ps⟩, ⟨cs, hg, ht⟩, xs', hxs, rfl⟩ := h
  obtain ⟨x, hx, hsz⟩ := he cs d ps ht
  obtain ⟨l, hl, hl2, hl3⟩ := mapM_reads hb he g is hxs
  refine ⟨x :: l, by simp [hl], ?_, ?_⟩
  ·intro k hk
   cases k with
   | zero => exact ⟨cs, hg, by simp, hx⟩
   | succ k =>
    obtain ⟨cs', h1, h2, h3⟩ := hl2 k (by simpa using hk)
    exact ⟨cs', h1, by simpa using h2, h3⟩
  ·simp only [List.map_cons, List.sum_cons]
   exact Nat.le_trans (Nat.add_le_add hsz hl3) (hb.cons _ _)
theorem cells_get {w : World} {a : Addr} {n : Nat} {cs : List Value} (h : w.cells? 0 a n = some cs) : cs.length = n ∧ ∀ j, j < n → ∃ v, cs[j]? = some v ∧ w.cell? (a.add j) = some v := by
 unfold World.cells? at h
 rw [if_pos (Nat.zero_le _)] at h
 have key : ∀ (is : List Nat) (cs : List Value), (is.mapM fun i => w.cell? (a.add i)) = some cs → cs.length = is.length ∧ ∀ k (hk : k < is.length), ∃ v, cs[k]? = some v ∧ w.cell? (a.add is[k]) = some v := by
  intro is
  induction is with
  | nil => intro cs h; simp at h; subst h; simp
  | cons i is ih =>
   intro cs h
   simp only [List.mapM_cons, Option.bind_eq_bind, Option.bind_eq_some_iff, Option.pure_def, Option.some.injEq] at h
   obtain ⟨v, hv, cs', hcs, rfl⟩ := h
   obtain ⟨h1, h2⟩ := ih cs' hcs
   refine ⟨by simp [h1], fun k hk => ?_⟩
   cases k with
   | zero => exact ⟨v, rfl, hv⟩
   | succ k => simpa using h2 k (by simpa using hk)
 obtain ⟨h1, h2⟩ := key _ _ h
 refine ⟨by simpa using h1, fun j hj => ?_⟩
 obtain ⟨v, e1, e2⟩ := h2 j (by simpa using hj)
 exact ⟨v, e1, by simpa using e2⟩
theorem spot_of_cell {w : World} {a : Addr} {v : Value} (h : w.cell? a = some v) : a.spot = none := by
 unfold World.cell? at h
 split at h
 ·split at h
  ·cases h
  ·rename_i hs; cases hh : a.spot with
   | none => rfl
   | some x => rw [hh] at hs; simp at hs
 ·cases h
theorem addr_add2 {a : Addr} (h : a.spot = none) (n : Nat) : a.add n = ⟨a.block, a.off + n, none⟩ := by
 obtain ⟨b, o, sp⟩ := a
 simp only at h
 subst h
 exact addr_add b o n
theorem reads_slice (hb : BulkOk bulk all) {α : Type} {f : α → List D} {sz : α → Nat} {n : Nat} {t e : TypeId} (ht : P.underlying t = some (.slice e)) (hk : P.cellsOf e ≠ 0) (hf : ∀ x, (f x).length = P.cellsOf e) (he : ReadsAt enc P w bulk n e f sz) :
  ReadsAt enc P w bulk (n + 1) t (fun l : List α => [.lst (l.map f)]) (fun l => (l.map sz).sum + 1) := by
 intro cs d ps h
 unfold DataW.trod at h
 rw [ht] at h
 split at h <;> (try (cases h; done)) <;> rename_i h1 <;> cases h1
 ·cases h
  exact ⟨[], ⟨_, _, rfl, ⟨none, 0, rfl, Nat.le_refl _, by omega, fun _ => rfl, fun a ha => by cases ha⟩, rfl⟩, hb.one _⟩
 ·rename_i a len cap
  simp only at h
  split at h
  ·rename_i hc
   obtain ⟨_, hlc, hcm⟩ := hc
   simp only [Option.bind_eq_some_iff, Option.map_eq_some_iff] at h
   obtain ⟨xs, hxs, rest, hrest, h⟩ := h
   cases h
   simp only [if_true] at hrest
   obtain ⟨l, hl, hl2, hl3⟩ := mapM_reads hb he (fun i => w.cells? 0 (a.add (i * P.cellsOf e)) (P.cellsOf e)) (List.range len) hxs
   have hll : l.length = len := by simpa using hl
   have hspot : cap ≠ 0 → a.spot = none := by
    intro hc0
    by_cases hl0 : len = 0
    ·subst hl0
     have hlt : 0 < cap - 0 := by omega
     obtain ⟨l', hl', hl2', _⟩ := mapM_reads hb he (fun j => w.cells? 0 (a.add ((0 + j) * P.cellsOf e)) (P.cellsOf e)) (List.range (cap - 0)) hrest
     obtain ⟨cs, hcs, _⟩ := hl2' 0 (by simpa using hlt)
     obtain ⟨_, hg⟩ := cells_get hcs
     obtain ⟨v, _, hv⟩ := hg 0 (by omega)
     have := spot_of_cell hv
     simpa [Addr.add] using this
    ·obtain ⟨cs, hcs, _⟩ := hl2 0 (by simp; omega)
     obtain ⟨_, hg⟩ := cells_get hcs
     obtain ⟨v, _, hv⟩ := hg 0 (by omega)
     have := spot_of_cell hv
     simpa [Addr.add] using this
   refine ⟨l, ⟨_, _, rfl, ⟨some a, cap, by rw [List.length_map, hll], by rw [List.length_map, hll]; exact hlc, by simpa [maxLen] using hcm, (fun h => by cases h), ?_⟩, rfl⟩, Nat.le_trans (Nat.succ_le_succ hl3) (hb.slice _ _)⟩
   intro a' ha'
   cases ha'
   refine ⟨hspot, ⟨P.cellsOf e, fun x hx => by obtain ⟨y, _, rfl⟩ := List.mem_map.1 hx; exact hf y⟩, ?_⟩
   have key : ∀ (r : List α) (i : Nat), (∀ k (hk : k < r.length), ∃ (h' : i + k < l.length), l[i + k] = r[k]) → RepEs w (liveS w) a.block (a.off + i * P.cellsOf e) (r.map f) := by
    intro r
    induction r with
    | nil => intro i _; trivial
    | cons x r ih =>
     intro i hi
     obtain ⟨h', e0⟩ := hi 0 (by simp)
     simp only [Nat.add_zero, List.getElem_cons_zero] at h' e0
     obtain ⟨cs, hcs, h2, hrep⟩ := hl2 i (by simpa [hll] using h')
     simp only [List.getElem_range] at hcs
     obtain ⟨hcl, hg⟩ := cells_get hcs
     have hsp := hspot (by omega)
     refine ⟨?_, ?_⟩
     ·rw [← e0]
      refine RepCs.of_values hrep fun j v hj => ?_
      have hj' : j < P.cellsOf e := by rw [← hcl]; exact (List.getElem?_eq_some_iff.1 hj).1
      obtain ⟨v', e1, e2⟩ := hg j hj'
      rw [hj] at e1
      cases e1
      rw [addr_add2 hsp, addr_add] at e2
      exact ⟨e2, v, e2⟩
     ·have := ih (i + 1) (fun k hk => by
        obtain ⟨g1, g2⟩ := hi (k + 1) (by simpa using hk)
        refine ⟨by omega, ?_⟩
        have e3 : i + 1 + k = i + (k + 1) := by omega
        simp only [e3]
        simpa using g2)
      rw [hf x, show a.off + i * P.cellsOf e + P.cellsOf e = a.off + (i + 1) * P.cellsOf e by rw [Nat.add_mul]; omega]
      exact this
   have := key l 0 (fun k hk => ⟨by omega, by simp⟩)
   simpa using this
  ·cases h
def ReadsF (enc : TypeId × Value → H) (P : Program) (w : World) (bulk : DataW H → Nat) (all : List (DataW H) → Nat) (n : Nat) (fs : List Field) (off : Nat) {α : Type} (f : α → List D) (sz : α → Nat) : Prop :=
 ∀ (cs : List Value) (xs : List (DataW H × List MemPlace)), (fs.mapM fun fd => DataW.trod enc P w 0 (fun _ => true) true n fd.type ((cs.drop fd.offset).take (P.cellsOf fd.type))) = some xs →
  ∃ x : α, RepL w (liveS w) (f x) ((cs.drop off).take (f x).length) ∧ sz x ≤ all (xs.map (·.1))
theorem reads_nil {n off : Nat} : ReadsF enc P w bulk all n [] off (fun _ : Unit => []) (fun _ => 0) := by
 intro cs xs h
 exact ⟨(), by simp [RepL], Nat.zero_le _⟩
theorem RepL.take_app {S : Safe} : ∀ {a b : List D} {l : List Value} , RepL w S a (l.take a.length) → RepL w S b ((l.drop a.length).take b.length) → RepL w S (a ++ b) (l.take (a ++ b).length)
 | [], b, l, _, h2 => by simpa using h2
 | x :: a, b, l, ⟨v, r, h, h1, h1'⟩, h2 => by
  cases l with
  | nil => simp at h
  | cons y l =>
   simp only [List.length_cons, List.take_succ_cons, List.cons.injEq] at h
   obtain ⟨rfl, rfl⟩ := h
   simp only [List.cons_append, List.length_cons, List.take_succ_cons]
   exact ⟨_, _, rfl, h1, RepL.take_app h1' (by simpa using h2)⟩
theorem reads_cons (hb : BulkOk bulk all) {n off k : Nat} {fd : Field} {fs : List Field} {α β : Type} {f : α → List D} {sz : α → Nat} {g : β → List D} {sz' : β → Nat} (ho : fd.offset = off) (hk : P.cellsOf fd.type = k) (hf : ∀ x, (f x).length = k)
  (h1 : ReadsAt enc P w bulk n fd.type f sz) (h2 : ReadsF enc P w bulk all n fs (off + k) g sz') : ReadsF enc P w bulk all n (fd :: fs) off (fun x : α × β => f x.1 ++ g x.2) (fun x => sz x.1 + sz' x.2) := by
 intro cs xs h
 simp only [List.mapM_cons, Option.bind_eq_bind, Option.bind_eq_some_iff, Option.pure_def, Option.some.injEq] at h
 obtain ⟨⟨d, ps⟩, hd, xs', hxs, rfl⟩ := h
 obtain ⟨x, hx, hxs1⟩ := h1 _ d ps hd
 obtain ⟨y, hy, hys⟩ := h2 cs xs' hxs
 refine ⟨(x, y), ?_, Nat.le_trans (Nat.add_le_add hxs1 hys) (by simpa using hb.cons _ _)⟩
 refine RepL.take_app ?_ ?_
 ·rw [hf x, ← hk, ← ho]; exact hx
 ·rw [hf x, List.drop_drop]
  exact hy
theorem reads_struct (hb : BulkOk bulk all) {n : Nat} {t : TypeId} {fs : Array Field} {α : Type} {f : α → List D} {sz : α → Nat} (ht : P.underlying t = some (.struct fs)) (hk : ∀ x, (f x).length = P.cellsOf t) (h : ReadsF enc P w bulk all n fs.toList 0 f sz) :
  ReadsAt enc P w bulk (n + 1) t f (fun x => sz x + 1) := by
 intro cs d ps hr
 unfold DataW.trod at hr
 simp only [ht] at hr
 split at hr
 ·rename_i hlen
  simp only [Option.map_eq_some_iff] at hr
  obtain ⟨xs, hxs, hr⟩ := hr
  cases hr
  obtain ⟨x, hx, hs⟩ := h cs xs hxs
  refine ⟨x, ?_, Nat.le_trans (Nat.succ_le_succ hs) (hb.agg _)⟩
  rw [List.drop_zero, hk x, ← hlen, List.take_length] at hx
  exact hx
 ·cases hr
end Go.Abs
end
section
namespace Go.Abs
open Go.RowKit Go.ChangeShapes
variable {H : Type} {enc : TypeId × Value → H} {P : Program} {w : World}
theorem post_same {f : Func} {s : ChangeSpec} {apart fresh handsOn again : Bool} {W W' : World} {args : Array Value} {ds gs : List (DataW H)} {before : List MemPlace} {tb : TypeId}
  (hW : DataW.Whole enc P f.params.toList s.vars apart W args.toList ds gs before) (hvars : s.vars = []) (hfn : ∀ l, l.length = f.params.size → (s.fn H l).results = [.lit (.bool true)] ∧ (s.fn H l).args = l ∧ (s.fn H l).vars = []) (hb : Below W.heap.size W W')
  (hl : laidOutB P = true) (hp : ∀ t ∈ f.params.toList, P.readableRec t = true ∧ t < P.types.size) (htb : P.underlying tb = some .bool) (hr : f.resultTypes = #[tb]) : s.post enc P f apart fresh handsOn again W args (.bool true) W' := by
 obtain ⟨p, q, hA, hV, hpq, hz, hn⟩ := id hW
 rw [hvars] at hV
 obtain ⟨rfl, rfl⟩ := trodVars_none hV
 have hlen : ds.length = f.params.size := by have := (trodAll_length hA).2; simpa using this
 obtain ⟨e1, e2, e3⟩ := hfn ds hlen
 have hlt : ∀ x ∈ before, x.block < W.heap.size := hW.lt
 rw [List.append_nil] at hpq
 subst hpq
 have hres : ∀ (b : Nat) (sp : Nat → Bool) (hd : Bool), DataW.TrodAll enc P W' b sp hd f.resultTypes.toList ((Value.bool true).resultList f.resultTypes.size) (s.fn H (ds ++ [])).results [] := by
  intro b sp hd
  rw [List.append_nil, e1, hr]
  exact trodAll_cons_mk (p := []) (p' := []) (shut_bool htb true) trodAll_mk0
 have hargs : ∀ sp : Nat → Bool, (∀ x ∈ before, sp x.block = true) → DataW.TrodAll enc P W' 0 sp true f.params.toList args.toList (s.fn H (ds ++ [])).args before := by
  intro sp hsp
  rw [List.append_nil, e2]
  have key : ∀ (ts : List TypeId) (vs : List Value) (ds : List (DataW H)) (ps : List MemPlace), (∀ t ∈ ts, P.readableRec t = true ∧ t < P.types.size) → (∀ x ∈ ps, x ∈ before) → DataW.TrodAll enc P W 0 (fun _ => true) true ts vs ds ps → DataW.TrodAll enc P W' 0 sp true ts vs ds ps := by
   intro ts
   induction ts with
   | nil => intro vs ds ps _ _ h; obtain ⟨rfl, rfl, rfl⟩ := trodAll_nil h; exact trodAll_mk0
   | cons t ts ih =>
    intro vs ds ps ht hin h
    obtain ⟨v, vs', d, ds', p1, p2, rfl, rfl, rfl, h1, h2⟩ := trodAll_cons h
    exact trodAll_cons_mk (WideElems.Trod_stays hl (ht t (by simp)).1 (ht t (by simp)).2 h1 (fun x hx => hb.same (hlt x (hin x (List.mem_append_left _ hx)))) (fun x hx => hsp x (hin x (List.mem_append_left _ hx))))
     (ih vs' ds' p2 (fun t' ht' => ht t' (by simp [ht'])) (fun x hx => hin x (List.mem_append_right _ hx)) h2)
  exact key _ _ _ _ hp (fun x hx => hx) hA
 have hold : ∀ x ∈ before, (fun b => decide (b < W.heap.size)) x.block = true := fun x hx => by simpa using hlt x hx
 have hv0 : ∀ sp : Nat → Bool, DataW.TrodVars enc P W' sp s.vars (s.fn H (ds ++ [])).vars [] := by
  intro sp; rw [hvars, List.append_nil, e3]; rfl
 refine ⟨ds, [], before, [], before, [], hW, hres _ _ _, hargs _ hold, hv0 _, World.keptBut_mono (fun x hx => ⟨hx, ?_⟩) (hb.frame (· ∈ before)), fun _ => ?_⟩
 ·simpa using hx
 ·refine ⟨ok_one hr rfl (okWide_bool_mk htb true), _, _, ([] ++ before) ++ [], ⟨[] ++ before, [], trodAll_append (hargs _ (fun _ _ => rfl)) (hres _ _ _), hv0 _, rfl, ?_, ?_⟩, ?_⟩
  ·intro b off hx
   have hx' : MemPlace.cell b off ∈ before := by simpa using hx
   have : W'.frozen? ⟨b, off, none⟩ = W.frozen? ⟨b, off, none⟩ := hb.frozen (p := ⟨b, off, none⟩) (hlt _ hx')
   rw [this]
   exact hz b off hx'
  ·intro ha
   simpa using hn ha
  ·intro x hx _
   simpa using hx
def strsData {H : Type} (ss : List (List UInt8)) : DataW H := .agg (ss.map fun s => .lit (.string s))
theorem strs_of_laid {base : Nat} {sp : Nat → Bool} {held : Bool} {fuel : Nat} {t e : TypeId} {n : Nat} {cs : List Value} {ss : List (List UInt8)} {p : List MemPlace} {S : Safe}
  (ht : P.underlying t = some (.array n e)) (he : P.underlying e = some .string) (hce : P.cellsOf e = 1) (hct : P.cellsOf t = n)
  (h : DataW.trod enc P w base sp held fuel t cs = some (strsData ss, p)) : RepL w S (ss.map D.str) cs := by
 cases fuel with
 | zero => simp [DataW.trod] at h
 | succ fuel =>
  simp only [DataW.trod, ht, hce, hct, Nat.mul_one] at h
  split at h
  ·rename_i hl
   obtain ⟨xs, hm, hx⟩ := Option.map_eq_some_iff.1 h
   have hxs : xs.map (·.1) = ss.map fun s => (DataW.lit (.string s) : DataW H) := by
    have := congrArg Prod.fst hx
    simpa [strsData] using this
   have hxl : xs.length = n := by simpa using Lib.mapM_length hm
   have hsl : ss.length = n := by
    have := congrArg List.length hxs
    simp at this; omega
   have hcl : cs.length = n := hl
   have key : ∀ i (hi : i < n), ∃ (x : ByteArray), cs[i]? = some (.string x) ∧ x.data.toList = ss.getD i [] ∧ x.size ≤ 9223372036854775807 := by
    intro i hi
    obtain ⟨b, hb, hf⟩ := Lib.mapM_at hm i i (by simp [hi])
    have hc : (cs.drop i).take 1 = [cs[i]'(by omega)] := by
     rw [List.drop_eq_getElem_cons (by omega)]; rfl
    rw [hc] at hf
    have hbi : b.1 = DataW.lit (.string (ss.getD i [])) := by
     have h2 : (xs.map (·.1))[i]? = some b.1 := by simp [hb]
     rw [hxs] at h2
     rw [List.getElem?_map, List.getElem?_eq_getElem (by omega)] at h2
     simp only [Option.map_some, Option.some.injEq] at h2
     rw [← h2]
     simp [List.getD, List.getElem?_eq_getElem (show i < ss.length by omega)]
    cases fuel with
    | zero => simp [DataW.trod] at hf
    | succ fuel =>
     simp only [DataW.trod, he] at hf
     generalize hci : cs[i]'(by omega) = ci at hf
     cases ci <;> simp only [reduceCtorEq] at hf
     rename_i x
     split at hf
     ·rename_i hmax
      cases hf
      simp only [DataW.lit.injEq, Lit.string.injEq] at hbi
      exact ⟨x, by rw [List.getElem?_eq_getElem (by omega), hci], hbi, by simpa [maxLen] using hmax⟩
     ·cases hf
   clear h hm hx hxs hxl
   have fin : ∀ (ss : List (List UInt8)) (cs : List Value), ss.length = cs.length → (∀ i, i < ss.length → ∃ (x : ByteArray), cs[i]? = some (.string x) ∧ x.data.toList = ss.getD i [] ∧ x.size ≤ 9223372036854775807) → RepL w S (ss.map D.str) cs := by
    intro ss
    induction ss with
    | nil => intro cs h _; cases cs with | nil => rfl | cons _ _ => simp at h
    | cons s ss ih =>
     intro cs hl hk
     cases cs with
     | nil => simp at hl
     | cons c cs =>
      obtain ⟨x, h1, h2, h3⟩ := hk 0 (by simp)
      simp only [List.getElem?_cons_zero, Option.some.injEq] at h1
      subst h1
      exact ⟨_, _, rfl, ⟨x, rfl, by simpa using h2, h3⟩, ih cs (by simpa using hl) fun i hi => by simpa using hk (i + 1) (by simpa using hi)⟩
   exact fin ss cs (by omega) (fun i hi => key i (by omega))
  ·cases h
theorem glob_of_laid {name : String} {ss : List (List UInt8)} {rest : List (String × DataW Unit)} {g : Nat} {t e : TypeId} {n : Nat}
  (hg : P.globalNamed name = some g) (hty : (P.globals[g]?).map (·.type) = some t) (ht : P.underlying t = some (.array n e)) (he : P.underlying e = some .string) (hce : P.cellsOf e = 1) (hct : P.cellsOf t = n)
  (h : laidMet P ((name, strsData ss) :: rest) w) : RepCs w (liveS w) g 0 (ss.map D.str) := by
 obtain ⟨ps, ⟨g', t', cs, fuel, p, q, hg', ht', hvar, hd, _, _⟩, _⟩ := h
 obtain rfl := Option.some.inj (hg.symm.trans hg')
 obtain rfl := Option.some.inj (hty.symm.trans ht')
 have hr : RepL w (liveS w) (ss.map D.str) cs.toList := strs_of_laid ht he hce hct hd
 have hcell := World.var?_cell hg hvar
 refine RepCs.of_values hr fun j v hj => ?_
 have hj' : cs[j]? = some v := by simpa using hj
 have := hcell j
 rw [hj'] at this
 rw [Nat.zero_add]
 exact ⟨this, v, this⟩
theorem var_block {name : String} {g : Nat} {cs : Array Value} (hg : P.globalNamed name = some g) (h : w.var? P name = some cs) : ∃ (e : TypeId) (fr : Nat × Nat), w.heap[g]? = some (.cells cs e fr) := by
 simp only [World.var?, hg, Option.bind_some] at h
 split at h
 ·rename_i vs e fr hb; cases h; exact ⟨e, fr, hb⟩
 ·cases h
theorem strs_glob {name : String} {ss : List (List UInt8)} {rest : List (String × DataW Unit)} {g : Nat} {t e : TypeId} {n : Nat}
  (hg : P.globalNamed name = some g) (hty : (P.globals[g]?).map (·.type) = some t) (ht : P.underlying t = some (.array n e)) (he : P.underlying e = some .string) (hce : P.cellsOf e = 1) (hct : P.cellsOf t = n)
  (h : laidMet P ((name, strsData ss) :: rest) w) : RepCs w (liveS w) g 0 (ss.map D.str) ∧ ∃ (vs : Array Value) (e : TypeId) (fr : Nat × Nat), w.heap[g]? = some (.cells vs e fr) ∧ vs.size = (ss.map D.str).length := by
 refine ⟨glob_of_laid hg hty ht he hce hct h, ?_⟩
 obtain ⟨ps, ⟨g', t', cs, fuel, p, q, hg', ht', hvar, hd, _, _⟩, _⟩ := h
 obtain rfl := Option.some.inj (hg.symm.trans hg')
 obtain rfl := Option.some.inj (hty.symm.trans ht')
 have hr : RepL w (liveS w) (ss.map D.str) cs.toList := strs_of_laid ht he hce hct hd
 obtain ⟨e', fr, hb⟩ := var_block hg hvar
 exact ⟨cs, e', fr, hb, by have := RepL.length hr; simpa using this⟩
theorem tab_glob {name : String} {k : IntKind} {zs : List Int} {g : Nat} (hg : P.globalNamed name = some g) (h : Lib.TabIs P w name k zs) :
  RepCs w (liveS w) g 0 (zs.map (D.int k)) ∧ ∃ (vs : Array Value) (e : TypeId) (fr : Nat × Nat), w.heap[g]? = some (.cells vs e fr) ∧ vs.size = (zs.map (D.int k)).length := by
 obtain ⟨e, fr, hb⟩ := var_block hg h
 refine ⟨RepCs.of_values (l := zs.map fun z => Value.int k z) ?_ fun j v hj => ?_, _, e, fr, hb, by simp⟩
 ·clear h hb
  induction zs with
  | nil => rfl
  | cons z zs ih => exact ⟨_, _, rfl, rfl, ih⟩
 ·have hc : w.cell? ⟨g, 0 + j, none⟩ = some v := by
    rw [Nat.zero_add, cell_of_cells hb]
    simpa using hj
  exact ⟨hc, v, hc⟩
theorem tab_of_glob {S : Safe} {name : String} {k : IntKind} {zs : List Int} {g : Nat} (hg : P.globalNamed name = some g) (h : RepCs w S g 0 (zs.map (D.int k))) (hx : ∃ (vs : Array Value) (e : TypeId) (fr : Nat × Nat), w.heap[g]? = some (.cells vs e fr) ∧ vs.size = (zs.map (D.int k)).length) : Lib.TabIs P w name k zs := by
 obtain ⟨vs, e, fr, hb, hn⟩ := hx
 unfold Lib.TabIs
 simp only [World.var?, hg, Option.bind_some, hb, Option.some.injEq]
 obtain ⟨l, hl, hc⟩ := RepCs.values h
 have hl2 : l = zs.map fun z => Value.int k z := by
  clear hc hn h
  induction zs generalizing l with
  | nil => simpa [RepL] using hl
  | cons z zs ih =>
   obtain ⟨v, r, rfl, h1, h2⟩ := hl
   simp only [Rep] at h1
   subst h1
   rw [List.map_cons, ih r h2]
 subst hl2
 apply Array.ext
 ·simpa using hn
 ·intro i h1 h2
  simp only [List.size_toArray, List.length_map] at h2
  have := (hc i (.int k zs[i]) (by simp [h2])).1
  rw [Nat.zero_add, cell_of_cells hb, Array.getElem?_eq_getElem h1] at this
  simpa using this
theorem laidMet_tail {x : String × DataW Unit} {r : List (String × DataW Unit)} (h : laidMet P (x :: r) w) : laidMet P r w := by
 obtain ⟨ps, hv, hnd, hrows⟩ := h
 obtain ⟨n, d⟩ := x
 obtain ⟨g, t, cs, fuel, p, q, _, _, _, _, hq, rfl⟩ := hv
 exact ⟨q, hq, List.Nodup.sublist (List.sublist_append_right _ _) hnd, fun b off hm => hrows b off (List.mem_append_right _ hm)⟩
theorem globals_le (h : w.ShapedOpen P) : P.globals.size ≤ w.heap.size := by
 obtain ⟨_, h2⟩ := h
 obtain ⟨o, _, ho, _⟩ := h2 P.globals.size (Nat.le_refl _) (by simp [begin]; omega)
 exact Nat.le_of_lt (Array.getElem?_eq_some_iff.1 ho).1
theorem arg_one {r : Reach} {b : Nat} {t : TypeId} {d : TypeDesc} {v : Value} (ht : P.underlying t = some d) (hd : d = .bool ∨ d = .string ∨ (∃ k, d = .int k) ∨ ∃ e, d = .slice e) (hval : Value.okWide P w r b t v) : v.cells.toList = [v] := by
 unfold Value.okWide at hval
 rw [ht] at hval
 rcases hd with rfl | rfl | ⟨k, rfl⟩ | ⟨e, rfl⟩ <;>
  (simp only [Cell.okWide, ht, Cell.ok] at hval
   cases v <;> simp_all [Value.cells])
theorem arg_agg {r : Reach} {b : Nat} {t : TypeId} {fs : Array Field} {v : Value} (ht : P.underlying t = some (.struct fs)) (hval : Value.okWide P w r b t v) : ∃ cs, v = .agg cs ∧ v.cells = cs := by
 unfold Value.okWide at hval
 rw [ht] at hval
 obtain ⟨cs, rfl, _⟩ := hval
 exact ⟨cs, rfl, rfl⟩
end Go.Abs
end
section
namespace Go.Abs
open Go.RowKit Go.ChangeShapes
variable {H : Type} {enc : TypeId × Value → H} {P : Program} {w : World} {bulk : DataW H → Nat} {all : List (DataW H) → Nat}
theorem reads_zero {t : TypeId} {α : Type} {f : α → List D} {sz : α → Nat} : ReadsAt enc P w bulk 0 t f sz := fun cs d ps h => by cases h
theorem reads_slice' (hb : BulkOk bulk all) {α : Type} {f : α → List D} {sz : α → Nat} {t e : TypeId} (ht : P.underlying t = some (.slice e)) (hk : P.cellsOf e ≠ 0) (hf : ∀ x, (f x).length = P.cellsOf e) (he : ∀ n, ReadsAt enc P w bulk n e f sz) :
  ∀ n, ReadsAt enc P w bulk n t (fun l : List α => [.lst (l.map f)]) (fun l => (l.map sz).sum + 1)
 | 0 => reads_zero
 | n + 1 => reads_slice hb ht hk hf (he n)
theorem reads_pred (hb : BulkOk bulk all) {t s to tn ti : TypeId} {n0 n1 n2 n3 g0 g1 g2 g3 p0 p1 p2 p3 : String} {b0 b1 b2 b3 : Nat} {e0 e1 e2 e3 : Bool}
  (ht : P.underlying t = some (.struct #[⟨n0, to, 0, e0, g0, p0, b0⟩, ⟨n1, tn, 1, e1, g1, p1, b1⟩, ⟨n2, ti, 2, e2, g2, p2, b2⟩, ⟨n3, s, 3, e3, g3, p3, b3⟩]))
  (ho : P.underlying to = some (.int .i64)) (hn : P.underlying tn = some .string) (hi : P.underlying ti = some (.int .i64)) (hs : P.underlying s = some (.slice t))
  (ct : P.cellsOf t = 4) (co : P.cellsOf to = 1) (cn : P.cellsOf tn = 1) (ci : P.cellsOf ti = 1) (cs : P.cellsOf s = 1) : ∀ n, ReadsAt enc P w bulk n t Pred.cells Pred.sz := by
 intro n
 induction n using Nat.strongRecOn with | _ n ih =>
 cases n with
 | zero => exact reads_zero
 | succ n =>
  have hk : ReadsAt enc P w bulk n s (fun l : List Pred => [.lst (l.map Pred.cells)]) (fun l => (l.map Pred.sz).sum + 1) := by
   cases n with
   | zero => exact reads_zero
   | succ m => exact reads_slice hb hs (by rw [ct]; decide) (fun x => by rw [ct]; exact Pred.cells_length x) (ih m (by omega))
  have hF := reads_cons hb (n := n) (fd := ⟨n0, to, 0, e0, g0, p0, b0⟩) (off := 0) rfl co (fun _ => rfl) (reads_int hb ho) (reads_cons hb (fd := ⟨n1, tn, 1, e1, g1, p1, b1⟩) rfl cn (fun _ => rfl) (reads_str hb hn) (reads_cons hb (fd := ⟨n2, ti, 2, e2, g2, p2, b2⟩) rfl ci (fun _ => rfl) (reads_int hb hi) (reads_cons hb (fd := ⟨n3, s, 3, e3, g3, p3, b3⟩) rfl cs (fun _ => rfl) hk reads_nil)))
  have h := reads_struct hb ht (fun x => by rw [ct]; rfl) hF
  refine reads_map h (fun x => Pred.mk x.1 x.2.1 x.2.2.1 x.2.2.2.1) (fun x => ?_) (fun x => ?_)
  ·rw [Pred.cells_eq]; rfl
  ·show Pred.sz (Pred.mk x.1 x.2.1 x.2.2.1 x.2.2.2.1) ≤ _
   simp only [Pred.sz, Pred.szs_eq]
   exact Nat.le_refl _
theorem ReadsF.two {n off : Nat} {fs : List Field} {α β : Type} {f : α → List D} {sz : α → Nat} {g : β → List D} {sz' : β → Nat} (h : ReadsF enc P w bulk all n fs off f sz) (φ : α → β) (hf : ∀ x, g (φ x) = f x) (hs : ∀ x, sz' (φ x) ≤ sz x) : ReadsF enc P w bulk all n fs off g sz' := fun cs xs hr => by
 obtain ⟨x, h1, h2⟩ := h cs xs hr
 exact ⟨φ x, by rw [hf]; exact h1, Nat.le_trans (hs x) h2⟩
theorem door_calls {G : Nat → Option (List D)} {f : FuncId} {args : Array Value} {cargs : List CV} (hev : Ev P G f cargs (.one (.bool true))) (hg : GlobOk P G w (liveS w)) (ha : RepCL w (liveS w) cargs args.toList) :
  Calls P f args w fun e w' => e = .returned (.bool true) ∧ Below w.heap.size w w' := by
 refine (hev.2 w (liveS w) args (fun b o h => h) hg ha).mono fun e w' h => ?_
 obtain ⟨v, S', he, hr, hb, _⟩ := h
 have : v = .bool true := hr
 subst this
 exact ⟨he, hb⟩
theorem repCL_cons {c : CV} {v : Value} {cs : List CV} {vs : List Value} (h : RepC w (liveS w) c v) (hs : RepCL w (liveS w) cs vs) : RepCL w (liveS w) (c :: cs) (v :: vs) := ⟨v, vs, rfl, h, hs⟩
theorem rep_one {α : Type} {r : Reach} {b n : Nat} {t : TypeId} {dsc : TypeDesc} {v : Value} {d : DataW H} {ps : List MemPlace} {f : α → D} {sz : α → Nat} (ht : P.underlying t = some dsc) (hd : dsc = .bool ∨ dsc = .string ∨ (∃ k, dsc = .int k) ∨ ∃ e, dsc = .slice e) (hval : Value.okWide P w r b t v)
  (hr : ReadsAt enc P w bulk n t (fun x => [f x]) sz) (h : DataW.trod enc P w 0 (fun _ => true) true n t v.cells.toList = some (d, ps)) : ∃ x : α, RepC w (liveS w) (.one (f x)) v ∧ sz x ≤ bulk d := by
 obtain ⟨x, h1, h2⟩ := hr _ _ _ h
 rw [arg_one ht hd hval] at h1
 obtain ⟨v', r', e, h3, _⟩ := h1
 cases e
 exact ⟨x, h3, h2⟩
theorem rep_agg {α : Type} {r : Reach} {b n : Nat} {t : TypeId} {fs : Array Field} {v : Value} {d : DataW H} {ps : List MemPlace} {f : α → List D} {sz : α → Nat} (ht : P.underlying t = some (.struct fs)) (hval : Value.okWide P w r b t v)
  (hr : ReadsAt enc P w bulk n t f sz) (h : DataW.trod enc P w 0 (fun _ => true) true n t v.cells.toList = some (d, ps)) : ∃ x : α, RepC w (liveS w) (.agg (f x)) v ∧ sz x ≤ bulk d := by
 obtain ⟨x, h1, h2⟩ := hr _ _ _ h
 obtain ⟨cs, rfl, hc⟩ := arg_agg ht hval
 rw [hc] at h1
 exact ⟨x, ⟨cs, rfl, h1⟩, h2⟩
end Go.Abs
end
section
namespace Go.Abs
open Go.RowKit Go.ChangeShapes
variable {H : Type} {enc : TypeId × Value → H} {P : Program} {w : World} {bulk : DataW H → Nat} {all : List (DataW H) → Nat}
def Cells (n : Nat) : Type := {l : List D // l.length = n}
def anyC {n : Nat} (x : Cells n) : List D := x.1
def flatFields (P : Program) (ts : List TypeId) : Nat → List Field → Option Nat
 | off, [] => some off
 | off, f :: fs => if f.offset == off && ts.contains f.type then flatFields P ts (off + P.cellsOf f.type) fs else none
def plainT (P : Program) (ts : List TypeId) (t : TypeId) : Bool := match P.underlying t with
 | some (.int _) => P.cellsOf t == 1
 | some .bool => P.cellsOf t == 1
 | some .string => P.cellsOf t == 1
 | some (.slice e) => P.cellsOf t == 1 && P.cellsOf e != 0 && ts.contains e
 | some (.struct fs) => flatFields P ts 0 fs.toList == some (P.cellsOf t)
 | _ => false
theorem reads_fields (hb : BulkOk bulk all) {ts : List TypeId} {n : Nat} (ih : ∀ t ∈ ts, ReadsAt enc P w bulk n t (anyC (n := P.cellsOf t)) (fun _ => 0)) :
  ∀ (fs : List Field) (off k : Nat), flatFields P ts off fs = some k → off ≤ k ∧ ReadsF enc P w bulk all n fs off (anyC (n := k - off)) (fun _ => 0)
 | [], off, k, h => by
  simp only [flatFields, Option.some.injEq] at h
  subst h
  refine ⟨Nat.le_refl _, fun cs xs hr => ?_⟩
  obtain ⟨x, h1, h2⟩ := reads_nil (enc := enc) (P := P) (w := w) (bulk := bulk) (all := all) cs xs hr
  exact ⟨⟨[], by simp⟩, h1, Nat.zero_le _⟩
 | f :: fs, off, k, h => by
  simp only [flatFields] at h
  split at h
  ·rename_i hc
   simp only [Bool.and_eq_true, beq_iff_eq, List.contains_iff_mem] at hc
   obtain ⟨h1, h2⟩ := reads_fields hb ih fs _ _ h
   refine ⟨by omega, ?_⟩
   have hF := reads_cons hb (fd := f) (fs := fs) hc.1 rfl (fun x => x.2) (ih f.type hc.2) h2
   refine hF.two (fun x => ⟨x.1.1 ++ x.2.1, by rw [List.length_append, x.1.2, x.2.2]; omega⟩) (fun _ => rfl) (fun _ => Nat.zero_le _)
  ·cases h
theorem reads_any (hb : BulkOk bulk all) {ts : List TypeId} (hts : ts.all (plainT P ts) = true) : ∀ n, ∀ t ∈ ts, ReadsAt enc P w bulk n t (anyC (n := P.cellsOf t)) (fun _ => 0)
 | 0, _, _ => reads_zero
 | n + 1, t, ht => by
  have ih := reads_any hb hts n
  have hp := List.all_eq_true.1 hts t ht
  unfold plainT at hp
  split at hp
  ·rename_i k hu
   have hp : P.cellsOf t = 1 := by simpa using hp
   exact reads_map (reads_int hb hu) (fun x => ⟨[.int k x], by rw [hp]; rfl⟩) (fun _ => rfl) (fun _ => Nat.zero_le _)
  ·rename_i hu
   have hp : P.cellsOf t = 1 := by simpa using hp
   exact reads_map (reads_bool hb hu) (fun x => ⟨[.bool x], by rw [hp]; rfl⟩) (fun _ => rfl) (fun _ => Nat.zero_le _)
  ·rename_i hu
   have hp : P.cellsOf t = 1 := by simpa using hp
   exact reads_map (reads_str hb hu) (fun x => ⟨[.str x], by rw [hp]; rfl⟩) (fun _ => rfl) (fun _ => Nat.zero_le _)
  ·rename_i e hu
   simp only [Bool.and_eq_true, beq_iff_eq, bne_iff_ne, ne_eq, List.contains_iff_mem] at hp
   obtain ⟨⟨h1, h2⟩, h3⟩ := hp
   exact reads_map (reads_slice hb hu h2 (fun x => x.2) (ih e h3)) (fun l => ⟨[.lst (l.map anyC)], by rw [h1]; rfl⟩) (fun _ => rfl) (fun _ => Nat.zero_le _)
  ·rename_i fs hu
   simp only [beq_iff_eq] at hp
   obtain ⟨_, hF⟩ := reads_fields (enc := enc) (w := w) hb ih fs.toList 0 _ hp
   exact reads_map (reads_struct hb hu (fun x => x.2) hF) (fun x => x) (fun _ => rfl) (fun _ => Nat.zero_le _)
  ·cases hp
theorem reads_one (hb : BulkOk bulk all) {ts : List TypeId} (hts : ts.all (plainT P ts) = true) {t : TypeId} (ht : t ∈ ts) (hc : P.cellsOf t = 1) (n : Nat) : ReadsAt enc P w bulk n t (fun x : D => [x]) (fun _ => 0) :=
 reads_map (reads_any hb hts n t ht) (fun x => x.1.headD (.bool false)) (fun x => by
  obtain ⟨l, hl⟩ := x
  rw [hc] at hl
  match l, hl with
  | [y], _ => rfl) (fun _ => Nat.zero_le _)
end Go.Abs
end
section
namespace Go.Abs
open Go.RowKit Go.ChangeShapes
variable {H : Type} {enc : TypeId × Value → H} {P : Program} {w : World} {bulk : DataW H → Nat} {all : List (DataW H) → Nat}
theorem reads_rec2 (hb : BulkOk bulk all) {α0 α1 : Type} {f0 : α0 → List D} {s0 : α0 → Nat} {f1 : α1 → List D} {s1 : α1 → Nat} {n : Nat} {t t0 t1 : TypeId} {k0 o0 b0 k1 o1 b1 : Nat} {n0 g0 p0 n1 g1 p1 : String} {e0 e1 : Bool}
  (ht : P.underlying t = some (.struct #[⟨n0, t0, o0, e0, g0, p0, b0⟩, ⟨n1, t1, o1, e1, g1, p1, b1⟩]))
  (ct : P.cellsOf t = k0 + k1) (c0 : P.cellsOf t0 = k0) (l0 : ∀ x, (f0 x).length = k0) (h0 : ReadsAt enc P w bulk n t0 f0 s0) (c1 : P.cellsOf t1 = k1) (l1 : ∀ x, (f1 x).length = k1) (h1 : ReadsAt enc P w bulk n t1 f1 s1) (q0 : o0 = 0 := by rfl) (q1 : o1 = 0+k0 := by rfl) :
  ReadsAt enc P w bulk (n + 1) t (fun x : α0 × α1 × Unit => f0 (x.1) ++ (f1 (x.2.1) ++ [])) (fun x => s0 (x.1) + (s1 (x.2.1) + 0) + 1) := by
 have hF := reads_cons (enc := enc) (w := w) hb (n := n) (fd := ⟨n0, t0, o0, e0, g0, p0, b0⟩) q0 c0 l0 h0 (reads_cons (enc := enc) (w := w) hb (n := n) (fd := ⟨n1, t1, o1, e1, g1, p1, b1⟩) q1 c1 l1 h1 (reads_nil (enc := enc) (P := P) (w := w) (bulk := bulk) (all := all) (n := n)))
 exact reads_struct hb ht (fun x => by rw [ct]; simp only [List.length_append, List.length_nil, l0, l1]; omega) hF
theorem reads_rec3 (hb : BulkOk bulk all) {α0 α1 α2 : Type} {f0 : α0 → List D} {s0 : α0 → Nat} {f1 : α1 → List D} {s1 : α1 → Nat} {f2 : α2 → List D} {s2 : α2 → Nat} {n : Nat} {t t0 t1 t2 : TypeId} {k0 o0 b0 k1 o1 b1 k2 o2 b2 : Nat} {n0 g0 p0 n1 g1 p1 n2 g2 p2 : String} {e0 e1 e2 : Bool}
  (ht : P.underlying t = some (.struct #[⟨n0, t0, o0, e0, g0, p0, b0⟩, ⟨n1, t1, o1, e1, g1, p1, b1⟩, ⟨n2, t2, o2, e2, g2, p2, b2⟩]))
  (ct : P.cellsOf t = k0 + k1 + k2) (c0 : P.cellsOf t0 = k0) (l0 : ∀ x, (f0 x).length = k0) (h0 : ReadsAt enc P w bulk n t0 f0 s0) (c1 : P.cellsOf t1 = k1) (l1 : ∀ x, (f1 x).length = k1) (h1 : ReadsAt enc P w bulk n t1 f1 s1) (c2 : P.cellsOf t2 = k2) (l2 : ∀ x, (f2 x).length = k2) (h2 : ReadsAt enc P w bulk n t2 f2 s2) (q0 : o0 = 0 := by rfl) (q1 : o1 = 0+k0 := by rfl) (q2 : o2 = 0+k0+k1 := by rfl) :
  ReadsAt enc P w bulk (n + 1) t (fun x : α0 × α1 × α2 × Unit => f0 (x.1) ++ (f1 (x.2.1) ++ (f2 (x.2.2.1) ++ []))) (fun x => s0 (x.1) + (s1 (x.2.1) + (s2 (x.2.2.1) + 0)) + 1) := by
 have hF := reads_cons (enc := enc) (w := w) hb (n := n) (fd := ⟨n0, t0, o0, e0, g0, p0, b0⟩) q0 c0 l0 h0 (reads_cons (enc := enc) (w := w) hb (n := n) (fd := ⟨n1, t1, o1, e1, g1, p1, b1⟩) q1 c1 l1 h1 (reads_cons (enc := enc) (w := w) hb (n := n) (fd := ⟨n2, t2, o2, e2, g2, p2, b2⟩) q2 c2 l2 h2 (reads_nil (enc := enc) (P := P) (w := w) (bulk := bulk) (all := all) (n := n))))
 exact reads_struct hb ht (fun x => by rw [ct]; simp only [List.length_append, List.length_nil, l0, l1, l2]; omega) hF
theorem reads_rec4 (hb : BulkOk bulk all) {α0 α1 α2 α3 : Type} {f0 : α0 → List D} {s0 : α0 → Nat} {f1 : α1 → List D} {s1 : α1 → Nat} {f2 : α2 → List D} {s2 : α2 → Nat} {f3 : α3 → List D} {s3 : α3 → Nat} {n : Nat} {t t0 t1 t2 t3 : TypeId} {k0 o0 b0 k1 o1 b1 k2 o2 b2 k3 o3 b3 : Nat} {n0 g0 p0 n1 g1 p1 n2 g2 p2 n3 g3 p3 : String} {e0 e1 e2 e3 : Bool}
  (ht : P.underlying t = some (.struct #[⟨n0, t0, o0, e0, g0, p0, b0⟩, ⟨n1, t1, o1, e1, g1, p1, b1⟩, ⟨n2, t2, o2, e2, g2, p2, b2⟩, ⟨n3, t3, o3, e3, g3, p3, b3⟩]))
  (ct : P.cellsOf t = k0 + k1 + k2 + k3) (c0 : P.cellsOf t0 = k0) (l0 : ∀ x, (f0 x).length = k0) (h0 : ReadsAt enc P w bulk n t0 f0 s0) (c1 : P.cellsOf t1 = k1) (l1 : ∀ x, (f1 x).length = k1) (h1 : ReadsAt enc P w bulk n t1 f1 s1) (c2 : P.cellsOf t2 = k2) (l2 : ∀ x, (f2 x).length = k2) (h2 : ReadsAt enc P w bulk n t2 f2 s2) (c3 : P.cellsOf t3 = k3) (l3 : ∀ x, (f3 x).length = k3) (h3 : ReadsAt enc P w bulk n t3 f3 s3) (q0 : o0 = 0 := by rfl) (q1 : o1 = 0+k0 := by rfl) (q2 : o2 = 0+k0+k1 := by rfl) (q3 : o3 = 0+k0+k1+k2 := by rfl) :
  ReadsAt enc P w bulk (n + 1) t (fun x : α0 × α1 × α2 × α3 × Unit => f0 (x.1) ++ (f1 (x.2.1) ++ (f2 (x.2.2.1) ++ (f3 (x.2.2.2.1) ++ [])))) (fun x => s0 (x.1) + (s1 (x.2.1) + (s2 (x.2.2.1) + (s3 (x.2.2.2.1) + 0))) + 1) := by
 have hF := reads_cons (enc := enc) (w := w) hb (n := n) (fd := ⟨n0, t0, o0, e0, g0, p0, b0⟩) q0 c0 l0 h0 (reads_cons (enc := enc) (w := w) hb (n := n) (fd := ⟨n1, t1, o1, e1, g1, p1, b1⟩) q1 c1 l1 h1 (reads_cons (enc := enc) (w := w) hb (n := n) (fd := ⟨n2, t2, o2, e2, g2, p2, b2⟩) q2 c2 l2 h2 (reads_cons (enc := enc) (w := w) hb (n := n) (fd := ⟨n3, t3, o3, e3, g3, p3, b3⟩) q3 c3 l3 h3 (reads_nil (enc := enc) (P := P) (w := w) (bulk := bulk) (all := all) (n := n)))))
 exact reads_struct hb ht (fun x => by rw [ct]; simp only [List.length_append, List.length_nil, l0, l1, l2, l3]; omega) hF
theorem reads_rec5 (hb : BulkOk bulk all) {α0 α1 α2 α3 α4 : Type} {f0 : α0 → List D} {s0 : α0 → Nat} {f1 : α1 → List D} {s1 : α1 → Nat} {f2 : α2 → List D} {s2 : α2 → Nat} {f3 : α3 → List D} {s3 : α3 → Nat} {f4 : α4 → List D} {s4 : α4 → Nat} {n : Nat} {t t0 t1 t2 t3 t4 : TypeId} {k0 o0 b0 k1 o1 b1 k2 o2 b2 k3 o3 b3 k4 o4 b4 : Nat} {n0 g0 p0 n1 g1 p1 n2 g2 p2 n3 g3 p3 n4 g4 p4 : String} {e0 e1 e2 e3 e4 : Bool}
  (ht : P.underlying t = some (.struct #[⟨n0, t0, o0, e0, g0, p0, b0⟩, ⟨n1, t1, o1, e1, g1, p1, b1⟩, ⟨n2, t2, o2, e2, g2, p2, b2⟩, ⟨n3, t3, o3, e3, g3, p3, b3⟩, ⟨n4, t4, o4, e4, g4, p4, b4⟩]))
  (ct : P.cellsOf t = k0 + k1 + k2 + k3 + k4) (c0 : P.cellsOf t0 = k0) (l0 : ∀ x, (f0 x).length = k0) (h0 : ReadsAt enc P w bulk n t0 f0 s0) (c1 : P.cellsOf t1 = k1) (l1 : ∀ x, (f1 x).length = k1) (h1 : ReadsAt enc P w bulk n t1 f1 s1) (c2 : P.cellsOf t2 = k2) (l2 : ∀ x, (f2 x).length = k2) (h2 : ReadsAt enc P w bulk n t2 f2 s2) (c3 : P.cellsOf t3 = k3) (l3 : ∀ x, (f3 x).length = k3) (h3 : ReadsAt enc P w bulk n t3 f3 s3) (c4 : P.cellsOf t4 = k4) (l4 : ∀ x, (f4 x).length = k4) (h4 : ReadsAt enc P w bulk n t4 f4 s4) (q0 : o0 = 0 := by rfl) (q1 : o1 = 0+k0 := by rfl) (q2 : o2 = 0+k0+k1 := by rfl) (q3 : o3 = 0+k0+k1+k2 := by rfl) (q4 : o4 = 0+k0+k1+k2+k3 := by rfl) :
  ReadsAt enc P w bulk (n + 1) t (fun x : α0 × α1 × α2 × α3 × α4 × Unit => f0 (x.1) ++ (f1 (x.2.1) ++ (f2 (x.2.2.1) ++ (f3 (x.2.2.2.1) ++ (f4 (x.2.2.2.2.1) ++ []))))) (fun x => s0 (x.1) + (s1 (x.2.1) + (s2 (x.2.2.1) + (s3 (x.2.2.2.1) + (s4 (x.2.2.2.2.1) + 0)))) + 1) := by
 have hF := reads_cons (enc := enc) (w := w) hb (n := n) (fd := ⟨n0, t0, o0, e0, g0, p0, b0⟩) q0 c0 l0 h0 (reads_cons (enc := enc) (w := w) hb (n := n) (fd := ⟨n1, t1, o1, e1, g1, p1, b1⟩) q1 c1 l1 h1 (reads_cons (enc := enc) (w := w) hb (n := n) (fd := ⟨n2, t2, o2, e2, g2, p2, b2⟩) q2 c2 l2 h2 (reads_cons (enc := enc) (w := w) hb (n := n) (fd := ⟨n3, t3, o3, e3, g3, p3, b3⟩) q3 c3 l3 h3 (reads_cons (enc := enc) (w := w) hb (n := n) (fd := ⟨n4, t4, o4, e4, g4, p4, b4⟩) q4 c4 l4 h4 (reads_nil (enc := enc) (P := P) (w := w) (bulk := bulk) (all := all) (n := n))))))
 exact reads_struct hb ht (fun x => by rw [ct]; simp only [List.length_append, List.length_nil, l0, l1, l2, l3, l4]; omega) hF
theorem reads_rec6 (hb : BulkOk bulk all) {α0 α1 α2 α3 α4 α5 : Type} {f0 : α0 → List D} {s0 : α0 → Nat} {f1 : α1 → List D} {s1 : α1 → Nat} {f2 : α2 → List D} {s2 : α2 → Nat} {f3 : α3 → List D} {s3 : α3 → Nat} {f4 : α4 → List D} {s4 : α4 → Nat} {f5 : α5 → List D} {s5 : α5 → Nat} {n : Nat} {t t0 t1 t2 t3 t4 t5 : TypeId} {k0 o0 b0 k1 o1 b1 k2 o2 b2 k3 o3 b3 k4 o4 b4 k5 o5 b5 : Nat} {n0 g0 p0 n1 g1 p1 n2 g2 p2 n3 g3 p3 n4 g4 p4 n5 g5 p5 : String} {e0 e1 e2 e3 e4 e5 : Bool}
  (ht : P.underlying t = some (.struct #[⟨n0, t0, o0, e0, g0, p0, b0⟩, ⟨n1, t1, o1, e1, g1, p1, b1⟩, ⟨n2, t2, o2, e2, g2, p2, b2⟩, ⟨n3, t3, o3, e3, g3, p3, b3⟩, ⟨n4, t4, o4, e4, g4, p4, b4⟩, ⟨n5, t5, o5, e5, g5, p5, b5⟩]))
  (ct : P.cellsOf t = k0 + k1 + k2 + k3 + k4 + k5) (c0 : P.cellsOf t0 = k0) (l0 : ∀ x, (f0 x).length = k0) (h0 : ReadsAt enc P w bulk n t0 f0 s0) (c1 : P.cellsOf t1 = k1) (l1 : ∀ x, (f1 x).length = k1) (h1 : ReadsAt enc P w bulk n t1 f1 s1) (c2 : P.cellsOf t2 = k2) (l2 : ∀ x, (f2 x).length = k2) (h2 : ReadsAt enc P w bulk n t2 f2 s2) (c3 : P.cellsOf t3 = k3) (l3 : ∀ x, (f3 x).length = k3) (h3 : ReadsAt enc P w bulk n t3 f3 s3) (c4 : P.cellsOf t4 = k4) (l4 : ∀ x, (f4 x).length = k4) (h4 : ReadsAt enc P w bulk n t4 f4 s4) (c5 : P.cellsOf t5 = k5) (l5 : ∀ x, (f5 x).length = k5) (h5 : ReadsAt enc P w bulk n t5 f5 s5) (q0 : o0 = 0 := by rfl) (q1 : o1 = 0+k0 := by rfl) (q2 : o2 = 0+k0+k1 := by rfl) (q3 : o3 = 0+k0+k1+k2 := by rfl) (q4 : o4 = 0+k0+k1+k2+k3 := by rfl) (q5 : o5 = 0+k0+k1+k2+k3+k4 := by rfl) :
  ReadsAt enc P w bulk (n + 1) t (fun x : α0 × α1 × α2 × α3 × α4 × α5 × Unit => f0 (x.1) ++ (f1 (x.2.1) ++ (f2 (x.2.2.1) ++ (f3 (x.2.2.2.1) ++ (f4 (x.2.2.2.2.1) ++ (f5 (x.2.2.2.2.2.1) ++ [])))))) (fun x => s0 (x.1) + (s1 (x.2.1) + (s2 (x.2.2.1) + (s3 (x.2.2.2.1) + (s4 (x.2.2.2.2.1) + (s5 (x.2.2.2.2.2.1) + 0))))) + 1) := by
 have hF := reads_cons (enc := enc) (w := w) hb (n := n) (fd := ⟨n0, t0, o0, e0, g0, p0, b0⟩) q0 c0 l0 h0 (reads_cons (enc := enc) (w := w) hb (n := n) (fd := ⟨n1, t1, o1, e1, g1, p1, b1⟩) q1 c1 l1 h1 (reads_cons (enc := enc) (w := w) hb (n := n) (fd := ⟨n2, t2, o2, e2, g2, p2, b2⟩) q2 c2 l2 h2 (reads_cons (enc := enc) (w := w) hb (n := n) (fd := ⟨n3, t3, o3, e3, g3, p3, b3⟩) q3 c3 l3 h3 (reads_cons (enc := enc) (w := w) hb (n := n) (fd := ⟨n4, t4, o4, e4, g4, p4, b4⟩) q4 c4 l4 h4 (reads_cons (enc := enc) (w := w) hb (n := n) (fd := ⟨n5, t5, o5, e5, g5, p5, b5⟩) q5 c5 l5 h5 (reads_nil (enc := enc) (P := P) (w := w) (bulk := bulk) (all := all) (n := n)))))))
 exact reads_struct hb ht (fun x => by rw [ct]; simp only [List.length_append, List.length_nil, l0, l1, l2, l3, l4, l5]; omega) hF
theorem reads_rec7 (hb : BulkOk bulk all) {α0 α1 α2 α3 α4 α5 α6 : Type} {f0 : α0 → List D} {s0 : α0 → Nat} {f1 : α1 → List D} {s1 : α1 → Nat} {f2 : α2 → List D} {s2 : α2 → Nat} {f3 : α3 → List D} {s3 : α3 → Nat} {f4 : α4 → List D} {s4 : α4 → Nat} {f5 : α5 → List D} {s5 : α5 → Nat} {f6 : α6 → List D} {s6 : α6 → Nat} {n : Nat} {t t0 t1 t2 t3 t4 t5 t6 : TypeId} {k0 o0 b0 k1 o1 b1 k2 o2 b2 k3 o3 b3 k4 o4 b4 k5 o5 b5 k6 o6 b6 : Nat} {n0 g0 p0 n1 g1 p1 n2 g2 p2 n3 g3 p3 n4 g4 p4 n5 g5 p5 n6 g6 p6 : String} {e0 e1 e2 e3 e4 e5 e6 : Bool}
  (ht : P.underlying t = some (.struct #[⟨n0, t0, o0, e0, g0, p0, b0⟩, ⟨n1, t1, o1, e1, g1, p1, b1⟩, ⟨n2, t2, o2, e2, g2, p2, b2⟩, ⟨n3, t3, o3, e3, g3, p3, b3⟩, ⟨n4, t4, o4, e4, g4, p4, b4⟩, ⟨n5, t5, o5, e5, g5, p5, b5⟩, ⟨n6, t6, o6, e6, g6, p6, b6⟩]))
  (ct : P.cellsOf t = k0 + k1 + k2 + k3 + k4 + k5 + k6) (c0 : P.cellsOf t0 = k0) (l0 : ∀ x, (f0 x).length = k0) (h0 : ReadsAt enc P w bulk n t0 f0 s0) (c1 : P.cellsOf t1 = k1) (l1 : ∀ x, (f1 x).length = k1) (h1 : ReadsAt enc P w bulk n t1 f1 s1) (c2 : P.cellsOf t2 = k2) (l2 : ∀ x, (f2 x).length = k2) (h2 : ReadsAt enc P w bulk n t2 f2 s2) (c3 : P.cellsOf t3 = k3) (l3 : ∀ x, (f3 x).length = k3) (h3 : ReadsAt enc P w bulk n t3 f3 s3) (c4 : P.cellsOf t4 = k4) (l4 : ∀ x, (f4 x).length = k4) (h4 : ReadsAt enc P w bulk n t4 f4 s4) (c5 : P.cellsOf t5 = k5) (l5 : ∀ x, (f5 x).length = k5) (h5 : ReadsAt enc P w bulk n t5 f5 s5) (c6 : P.cellsOf t6 = k6) (l6 : ∀ x, (f6 x).length = k6) (h6 : ReadsAt enc P w bulk n t6 f6 s6) (q0 : o0 = 0 := by rfl) (q1 : o1 = 0+k0 := by rfl) (q2 : o2 = 0+k0+k1 := by rfl) (q3 : o3 = 0+k0+k1+k2 := by rfl) (q4 : o4 = 0+k0+k1+k2+k3 := by rfl) (q5 : o5 = 0+k0+k1+k2+k3+k4 := by rfl) (q6 : o6 = 0+k0+k1+k2+k3+k4+k5 := by rfl) :
  ReadsAt enc P w bulk (n + 1) t (fun x : α0 × α1 × α2 × α3 × α4 × α5 × α6 × Unit => f0 (x.1) ++ (f1 (x.2.1) ++ (f2 (x.2.2.1) ++ (f3 (x.2.2.2.1) ++ (f4 (x.2.2.2.2.1) ++ (f5 (x.2.2.2.2.2.1) ++ (f6 (x.2.2.2.2.2.2.1) ++ []))))))) (fun x => s0 (x.1) + (s1 (x.2.1) + (s2 (x.2.2.1) + (s3 (x.2.2.2.1) + (s4 (x.2.2.2.2.1) + (s5 (x.2.2.2.2.2.1) + (s6 (x.2.2.2.2.2.2.1) + 0)))))) + 1) := by
 have hF := reads_cons (enc := enc) (w := w) hb (n := n) (fd := ⟨n0, t0, o0, e0, g0, p0, b0⟩) q0 c0 l0 h0 (reads_cons (enc := enc) (w := w) hb (n := n) (fd := ⟨n1, t1, o1, e1, g1, p1, b1⟩) q1 c1 l1 h1 (reads_cons (enc := enc) (w := w) hb (n := n) (fd := ⟨n2, t2, o2, e2, g2, p2, b2⟩) q2 c2 l2 h2 (reads_cons (enc := enc) (w := w) hb (n := n) (fd := ⟨n3, t3, o3, e3, g3, p3, b3⟩) q3 c3 l3 h3 (reads_cons (enc := enc) (w := w) hb (n := n) (fd := ⟨n4, t4, o4, e4, g4, p4, b4⟩) q4 c4 l4 h4 (reads_cons (enc := enc) (w := w) hb (n := n) (fd := ⟨n5, t5, o5, e5, g5, p5, b5⟩) q5 c5 l5 h5 (reads_cons (enc := enc) (w := w) hb (n := n) (fd := ⟨n6, t6, o6, e6, g6, p6, b6⟩) q6 c6 l6 h6 (reads_nil (enc := enc) (P := P) (w := w) (bulk := bulk) (all := all) (n := n))))))))
 exact reads_struct hb ht (fun x => by rw [ct]; simp only [List.length_append, List.length_nil, l0, l1, l2, l3, l4, l5, l6]; omega) hF
end Go.Abs
end
section
namespace Go.Abs.Seat
open Go Go.Abs Go.Proofs
def tl0 : List (Nat × Ty) := [(1, .cell (.d .nilf)), (2, .cell (0:Int)), (3, .cell (0:Int)), (4, .cell (.d (.bool false))), (5, .cell (.d (.int .u8 0))), (6, .cell (.d (.int .u8 0))), (7, .agg [(0:Int), (0:Int), .d (.bool false), .d (.int .u8 0)] [(0, 1, false), (1, 1, false), (2, 1, false), (3, 1, false)]), (8, .agg [(0:Int), (0:Int), .d (.bool false), .d (.int .u8 0)] [(0, 1, false), (1, 1, false), (2, 1, false), (3, 1, false)]), (9, .cell (.d (.str []))), (10, .cell (.d (.str []))), (11, .cell (.d (.str []))), (12, .cell (.d (.int .u64 0))), (15, .cell (.d .nilp)), (16, .cell (.d .nilp)), (17, .cell (.d .nilp))]
def tl1 : List (Nat × Ty) := [(18, .agg [.d .nilp] [(0, 1, false)]), (19, .agg [.d .nilp] [(0, 1, false)]), (21, .cell (.d (.int .i32 0))), (22, .slice 4 88), (23, .slice 3 56), (24, .slice 12 216), (25, .slice 8 128), (26, .slice 6 96), (27, .slice 25 456), (28, .agg [.full [], .full [], .full [], .full [], .full [], .full []] [(0, 1, false), (1, 1, false), (2, 1, false), (3, 1, false), (4, 1, false), (5, 1, false)]), (29, .agg [.full [], .full [], .full [], .full [], .full [], .full []] [(0, 1, false), (1, 1, false), (2, 1, false), (3, 1, false), (4, 1, false), (5, 1, false)]), (30, .slice 4 56), (31, .cell (0:Int)), (32, .agg [(0:Int), .d (.str []), (0:Int), .full []] [(0, 1, false), (1, 1, false), (2, 1, false), (3, 1, false)]), (33, .agg [(0:Int), .d (.str []), (0:Int), .full []] [(0, 1, false), (1, 1, false), (2, 1, false), (3, 1, false)])]
def tl2 : List (Nat × Ty) := [(34, .cell (.d (.str []))), (35, .agg [.full [], (0:Int), .d (.str []), (0:Int), .full [], .d (.str [])] [(0, 1, false), (1, 4, true), (5, 1, false)]), (36, .agg [.full [], (0:Int), .d (.str []), (0:Int), .full [], .d (.str [])] [(0, 1, false), (1, 4, true), (5, 1, false)]), (37, .cell (.d .nilf)), (38, .cell (.d .nilf)), (39, .cell (.d .nilf)), (40, .cell (.d .nilf)), (41, .cell (.d .nilf)), (42, .cell (.d .nilf)), (43, .cell (.d .nilf)), (44, .cell (0:Int)), (45, .slice 7 128), (46, .slice 1 16), (47, .slice 7 128), (48, .slice 8 144)]
def tl3 : List (Nat × Ty) := [(49, .agg [(0:Int), (0:Int), .d (.str []), .full [], .full [], .full [], .full []] [(0, 1, false), (1, 1, false), (2, 1, false), (3, 1, false), (4, 1, false), (5, 1, false), (6, 1, false)]), (50, .agg [(0:Int), (0:Int), .d (.str []), .full [], .full [], .full [], .full []] [(0, 1, false), (1, 1, false), (2, 1, false), (3, 1, false), (4, 1, false), (5, 1, false), (6, 1, false)]), (51, .cell (.d .nilf)), (52, .cell (.d .nilf)), (53, .slice 3 48), (54, .cell (.d .nilf)), (55, .cell (.d .nilf)), (56, .cell (.d .nilf)), (57, .slice 1 8), (58, .agg [.d (.str []), .full [], (0:Int)] [(0, 1, false), (1, 1, false), (2, 1, false)]), (59, .agg [.d (.str []), .full [], (0:Int)] [(0, 1, false), (1, 1, false), (2, 1, false)]), (60, .cell (.d .nilf)), (61, .agg [.d (.str []), (0:Int)] [(0, 1, false), (1, 1, false)]), (62, .agg [.d (.str []), (0:Int)] [(0, 1, false), (1, 1, false)]), (63, .slice 2 24)]
def tl4 : List (Nat × Ty) := [(64, .slice 2 24), (65, .cell (.d .nilf)), (66, .cell (.d .nilf)), (68, .cell (.d .nilf)), (69, .slice 2 32), (70, .slice 3 64), (71, .agg [.d (.str []), .full [], .full [], .full []] [(0, 1, false), (1, 1, false), (2, 1, false), (3, 1, false)]), (72, .agg [.d (.str []), .full [], .full [], .full []] [(0, 1, false), (1, 1, false), (2, 1, false), (3, 1, false)]), (73, .slice 6 96), (74, .agg [.d (.str []), .d (.str []), .d (.str []), .full [], (0:Int), .d (.str []), (0:Int), .full []] [(0, 1, false), (1, 1, false), (2, 1, false), (3, 1, false), (4, 4, true)]), (75, .agg [.d (.str []), .d (.str []), .d (.str []), .full [], (0:Int), .d (.str []), (0:Int), .full []] [(0, 1, false), (1, 1, false), (2, 1, false), (3, 1, false), (4, 4, true)]), (76, .agg [.d (.str []), .full [], (0:Int), .d (.str []), (0:Int), .full []] [(0, 1, false), (1, 1, false), (2, 4, true)]), (77, .agg [.d (.str []), .full [], (0:Int), .d (.str []), (0:Int), .full []] [(0, 1, false), (1, 1, false), (2, 4, true)]), (79, .cell (.d .nilf)), (80, .cell (.d .nilf))]
def tl5 : List (Nat × Ty) := [(81, .cell (.d .nilf)), (82, .cell (.d .nilf)), (83, .cell (.d .nilf)), (84, .cell (.d .nilf)), (85, .slice 3 56), (86, .slice 2 40), (87, .slice 7 112), (88, .agg [.full [], .full [], .full []] [(0, 1, false), (1, 1, false), (2, 1, false)]), (89, .agg [.full [], .full [], .full []] [(0, 1, false), (1, 1, false), (2, 1, false)]), (90, .cell (.d .nilf)), (91, .agg [.full [], .full [], (0:Int), .d (.str []), (0:Int), .full [], (0:Int)] [(0, 1, false), (1, 1, false), (2, 4, true), (6, 1, false)]), (92, .agg [.full [], .full [], (0:Int), .d (.str []), (0:Int), .full [], (0:Int)] [(0, 1, false), (1, 1, false), (2, 4, true), (6, 1, false)]), (93, .cell (.d .nilf)), (95, .cell (.d .nilf)), (96, .cell (.d .nilf))]
def tl6 : List (Nat × Ty) := [(98, .cell (.d .nilf)), (99, .cell (.d .nilf)), (100, .cell (.d .nilf)), (102, .cell (.d .nilf)), (103, .cell (.d .nilf)), (104, .cell (.d .nilf)), (106, .cell (.d .nilf)), (107, .cell (.d .nilf)), (108, .cell (.d .nilf)), (109, .cell (.d .nilf)), (110, .cell (.d .nilf)), (111, .cell (.d .nilf)), (112, .cell (0:Int)), (113, .cell (.d .nilf)), (114, .cell (.d .nilf))]
def tl7 : List (Nat × Ty) := [(116, .cell (.d .nilf)), (117, .cell (.d .nilp)), (118, .map 9 50 (.str []) (.agg [.int .i64 0, .int .i64 0, .str [], .lst [], .lst [], .lst [], .lst []])), (119, .cell (.d .nilf)), (120, .agg [.full [], .full [], .full [], .full [], .full [], .full [], .undef, .full [], .full []] [(0, 6, true), (6, 1, false), (7, 1, false), (8, 1, false)]), (121, .agg [.full [], .full [], .full [], .full [], .full [], .full [], .undef, .full [], .full []] [(0, 6, true), (6, 1, false), (7, 1, false), (8, 1, false)]), (123, .cell (.d .nilf)), (124, .cell (0:Int)), (125, .slice 9 152), (126, .agg [(0:Int), .d (.str []), .full [], .full [], (0:Int), .d (.str []), (0:Int), .full [], .full []] [(0, 1, false), (1, 1, false), (2, 1, false), (3, 1, false), (4, 4, true), (8, 1, false)]), (127, .agg [(0:Int), .d (.str []), .full [], .full [], (0:Int), .d (.str []), (0:Int), .full [], .full []] [(0, 1, false), (1, 1, false), (2, 1, false), (3, 1, false), (4, 4, true), (8, 1, false)]), (128, .agg [.d (.str []), .full [], .full []] [(0, 1, false), (1, 1, false), (2, 1, false)]), (129, .agg [.d (.str []), .full [], .full []] [(0, 1, false), (1, 1, false), (2, 1, false)]), (130, .slice 1 16), (131, .agg [.d (.str []), .full [], .d (.str [])] [(0, 1, false), (1, 1, false), (2, 1, false)])]
def tl8 : List (Nat × Ty) := [(132, .agg [.d (.str []), .full [], .d (.str [])] [(0, 1, false), (1, 1, false), (2, 1, false)]), (133, .cell (.d .nilf)), (134, .cell (.d .nilf)), (135, .cell (.d .nilf)), (136, .cell (.d .nilf)), (137, .cell (.d .nilf)), (138, .cell (.d .nilf)), (139, .cell (.d .nilf)), (140, .cell (.d .nilf)), (141, .cell (.d .nilf)), (142, .agg [.d (.str []), (0:Int), (0:Int), .d (.str []), .full [], .full [], .full [], .full []] [(0, 1, false), (1, 7, true)]), (143, .agg [.d (.str []), (0:Int), (0:Int), .d (.str []), .full [], .full [], .full [], .full []] [(0, 1, false), (1, 7, true)]), (144, .cell (.d .nilf)), (145, .cell (0:Int)), (146, .slice 10 168)]
def tl9 : List (Nat × Ty) := [(147, .slice 9 168), (148, .agg [(0:Int), .d (.str []), (0:Int), .full [], .full [], .full [], .full []] [(0, 1, false), (1, 1, false), (2, 1, false), (3, 1, false), (4, 1, false), (5, 1, false), (6, 1, false)]), (149, .agg [(0:Int), .d (.str []), (0:Int), .full [], .full [], .full [], .full []] [(0, 1, false), (1, 1, false), (2, 1, false), (3, 1, false), (4, 1, false), (5, 1, false), (6, 1, false)]), (150, .agg [.full [], .full []] [(0, 1, false), (1, 1, false)]), (151, .agg [.full [], .full []] [(0, 1, false), (1, 1, false)]), (152, .cell (.d .nilf)), (153, .cell (.d .nilf)), (154, .cell (.d .nilf)), (155, .cell (.d .nilf)), (156, .cell (.d .nilf)), (157, .cell (.d .nilf)), (158, .cell (.d .nilf)), (159, .cell (.d .nilf)), (161, .cell (.d .nilf)), (162, .agg [.d (.str []), .d (.str [])] [(0, 1, false), (1, 1, false)])]
def tl10 : List (Nat × Ty) := [(163, .agg [.d (.str []), .d (.str [])] [(0, 1, false), (1, 1, false)]), (164, .cell (.d .nilf)), (165, .cell (.d .nilf)), (166, .cell (.d .nilf)), (167, .cell (.d .nilf)), (168, .cell (.d .nilf)), (169, .cell (.d .nilf)), (170, .cell (.d .nilf)), (171, .cell (.d .nilf)), (172, .cell (.d .nilf)), (173, .agg [.d (.str []), .full [], (0:Int), .d (.str []), (0:Int), .full [], .full [], .full [], .full []] [(0, 1, false), (1, 1, false), (2, 7, true)]), (174, .agg [.d (.str []), .full [], (0:Int), .d (.str []), (0:Int), .full [], .full [], .full [], .full []] [(0, 1, false), (1, 1, false), (2, 7, true)]), (175, .cell (.d .nilf)), (176, .cell (.d .nilf)), (177, .cell (.d .nilf))]
def tl11 : List (Nat × Ty) := [(178, .cell (.d .nilf)), (179, .cell (.d .nilf)), (180, .cell (.d .nilf)), (181, .cell (.d .nilf)), (182, .cell (.d .nilf)), (183, .cell (.d .nilf)), (184, .cell (.d .nilf)), (185, .cell (.d .nilf)), (186, .cell (.d .nilf)), (187, .map 9 4 (.str []) (.one (.bool false))), (188, .cell (.d .nilf)), (189, .cell (.d .nilf)), (190, .cell (.d .nilf)), (191, .cell (.d .nilf)), (192, .cell (.d .nilf))]
def tl12 : List (Nat × Ty) := [(193, .cell (.d .nilf)), (194, .cell (.d .nilf)), (195, .agg [.d (.str []), (0:Int), .d (.str []), .full [], .full [], (0:Int), .d (.str []), (0:Int), .full [], .full []] [(0, 1, false), (1, 9, true)]), (196, .agg [.d (.str []), (0:Int), .d (.str []), .full [], .full [], (0:Int), .d (.str []), (0:Int), .full [], .full []] [(0, 1, false), (1, 9, true)]), (197, .cell (.d .nilf)), (198, .cell (.d .nilf)), (199, .cell (.d .nilf)), (200, .cell (.d .nilf)), (201, .cell (.d .nilf)), (202, .cell (.d .nilf)), (203, .cell (.d .nilf)), (204, .cell (.d .nilf)), (206, .cell (.d .nilf)), (207, .cell (.d .nilf)), (208, .cell (.d .nilf))]
def tl13 : List (Nat × Ty) := [(209, .cell (.d .nilf)), (210, .cell (.d (.int .u64 0))), (211, .cell (.d .nilf)), (212, .cell (.d .nilf)), (213, .cell (.d .nilf)), (214, .cell (.d .nilf)), (215, .cell (.d .nilf)), (216, .cell (.d .nilf)), (217, .cell (0:Int)), (219, .cell (.d .nilf)), (220, .cell (.d .nilf)), (221, .cell (.d .nilf)), (222, .cell (.d .nilf)), (223, .cell (.d .nilf)), (224, .cell (.d .nilf))]
def tl14 : List (Nat × Ty) := [(225, .cell (.d (.int .u32 0))), (226, .cell (.d .nilf)), (227, .cell (.d (.int .u64 0))), (228, .cell (.d .nilf)), (229, .cell (.d .nilf)), (230, .cell (.d .nilf)), (231, .arr 42 1 false [.d (.str []), .d (.str []), .d (.str []), .d (.str []), .d (.str []), .d (.str []), .d (.str []), .d (.str []), .d (.str []), .d (.str []), .d (.str []), .d (.str []), .d (.str []), .d (.str []), .d (.str []), .d (.str []), .d (.str []), .d (.str []), .d (.str []), .d (.str []), .d (.str []), .d (.str []), .d (.str []), .d (.str []), .d (.str []), .d (.str []), .d (.str []), .d (.str []), .d (.str []), .d (.str []), .d (.str []), .d (.str []), .d (.str []), .d (.str []), .d (.str []), .d (.str []), .d (.str []), .d (.str []), .d (.str []), .d (.str []), .d (.str []), .d (.str [])]), (232, .cell (.d (.int .u64 0))), (233, .cell (.d .nilf)), (234, .cell (.d .nilf)), (235, .cell (.d .nilf)), (236, .cell (.d .nilp)), (237, .cell (.d .nilf)), (238, .arr 24 1 false [.d (.int .u8 0), .d (.int .u8 0), .d (.int .u8 0), .d (.int .u8 0), .d (.int .u8 0), .d (.int .u8 0), .d (.int .u8 0), .d (.int .u8 0), .d (.int .u8 0), .d (.int .u8 0), .d (.int .u8 0), .d (.int .u8 0), .d (.int .u8 0), .d (.int .u8 0), .d (.int .u8 0), .d (.int .u8 0), .d (.int .u8 0), .d (.int .u8 0), .d (.int .u8 0), .d (.int .u8 0), .d (.int .u8 0), .d (.int .u8 0), .d (.int .u8 0), .d (.int .u8 0)]), (239, .cell (.d .nilf))]
def tl15 : List (Nat × Ty) := [(240, .slice 1 1), (242, .cell (.d .nilf)), (243, .cell (.d .nilp)), (244, .cell (.d .nilf)), (245, .arr 20 1 false [.d (.int .u64 0), .d (.int .u64 0), .d (.int .u64 0), .d (.int .u64 0), .d (.int .u64 0), .d (.int .u64 0), .d (.int .u64 0), .d (.int .u64 0), .d (.int .u64 0), .d (.int .u64 0), .d (.int .u64 0), .d (.int .u64 0), .d (.int .u64 0), .d (.int .u64 0), .d (.int .u64 0), .d (.int .u64 0), .d (.int .u64 0), .d (.int .u64 0), .d (.int .u64 0), .d (.int .u64 0)]), (246, .arr 65 1 false [.d (.int .u8 0), .d (.int .u8 0), .d (.int .u8 0), .d (.int .u8 0), .d (.int .u8 0), .d (.int .u8 0), .d (.int .u8 0), .d (.int .u8 0), .d (.int .u8 0), .d (.int .u8 0), .d (.int .u8 0), .d (.int .u8 0), .d (.int .u8 0), .d (.int .u8 0), .d (.int .u8 0), .d (.int .u8 0), .d (.int .u8 0), .d (.int .u8 0), .d (.int .u8 0), .d (.int .u8 0), .d (.int .u8 0), .d (.int .u8 0), .d (.int .u8 0), .d (.int .u8 0), .d (.int .u8 0), .d (.int .u8 0), .d (.int .u8 0), .d (.int .u8 0), .d (.int .u8 0), .d (.int .u8 0), .d (.int .u8 0), .d (.int .u8 0), .d (.int .u8 0), .d (.int .u8 0), .d (.int .u8 0), .d (.int .u8 0), .d (.int .u8 0), .d (.int .u8 0), .d (.int .u8 0), .d (.int .u8 0), .d (.int .u8 0), .d (.int .u8 0), .d (.int .u8 0), .d (.int .u8 0), .d (.int .u8 0), .d (.int .u8 0), .d (.int .u8 0), .d (.int .u8 0), .d (.int .u8 0), .d (.int .u8 0), .d (.int .u8 0), .d (.int .u8 0), .d (.int .u8 0), .d (.int .u8 0), .d (.int .u8 0), .d (.int .u8 0), .d (.int .u8 0), .d (.int .u8 0), .d (.int .u8 0), .d (.int .u8 0), .d (.int .u8 0), .d (.int .u8 0), .d (.int .u8 0), .d (.int .u8 0), .d (.int .u8 0)]), (247, .cell (.d .nilf)), (248, .arr 32 1 false [.d (.int .u8 0), .d (.int .u8 0), .d (.int .u8 0), .d (.int .u8 0), .d (.int .u8 0), .d (.int .u8 0), .d (.int .u8 0), .d (.int .u8 0), .d (.int .u8 0), .d (.int .u8 0), .d (.int .u8 0), .d (.int .u8 0), .d (.int .u8 0), .d (.int .u8 0), .d (.int .u8 0), .d (.int .u8 0), .d (.int .u8 0), .d (.int .u8 0), .d (.int .u8 0), .d (.int .u8 0), .d (.int .u8 0), .d (.int .u8 0), .d (.int .u8 0), .d (.int .u8 0), .d (.int .u8 0), .d (.int .u8 0), .d (.int .u8 0), .d (.int .u8 0), .d (.int .u8 0), .d (.int .u8 0), .d (.int .u8 0), .d (.int .u8 0)]), (249, .arr 64 1 false [.d (.int .u8 0), .d (.int .u8 0), .d (.int .u8 0), .d (.int .u8 0), .d (.int .u8 0), .d (.int .u8 0), .d (.int .u8 0), .d (.int .u8 0), .d (.int .u8 0), .d (.int .u8 0), .d (.int .u8 0), .d (.int .u8 0), .d (.int .u8 0), .d (.int .u8 0), .d (.int .u8 0), .d (.int .u8 0), .d (.int .u8 0), .d (.int .u8 0), .d (.int .u8 0), .d (.int .u8 0), .d (.int .u8 0), .d (.int .u8 0), .d (.int .u8 0), .d (.int .u8 0), .d (.int .u8 0), .d (.int .u8 0), .d (.int .u8 0), .d (.int .u8 0), .d (.int .u8 0), .d (.int .u8 0), .d (.int .u8 0), .d (.int .u8 0), .d (.int .u8 0), .d (.int .u8 0), .d (.int .u8 0), .d (.int .u8 0), .d (.int .u8 0), .d (.int .u8 0), .d (.int .u8 0), .d (.int .u8 0), .d (.int .u8 0), .d (.int .u8 0), .d (.int .u8 0), .d (.int .u8 0), .d (.int .u8 0), .d (.int .u8 0), .d (.int .u8 0), .d (.int .u8 0), .d (.int .u8 0), .d (.int .u8 0), .d (.int .u8 0), .d (.int .u8 0), .d (.int .u8 0), .d (.int .u8 0), .d (.int .u8 0), .d (.int .u8 0), .d (.int .u8 0), .d (.int .u8 0), .d (.int .u8 0), .d (.int .u8 0), .d (.int .u8 0), .d (.int .u8 0), .d (.int .u8 0), .d (.int .u8 0)]), (250, .cell (.d .nilf)), (251, .agg [.d .nilp, .d .nilp, .d .nilp, .d (.str [])] [(0, 1, false), (1, 1, false), (2, 1, false), (3, 1, false)]), (252, .agg [.d .nilp, .d .nilp, .d .nilp, .d (.str [])] [(0, 1, false), (1, 1, false), (2, 1, false), (3, 1, false)]), (253, .arr 0 1 false []), (256, .cell (.d .nilf)), (257, .cell (.d (.int .u8 0)))]
def tl16 : List (Nat × Ty) := [(258, .cell (.d (.int .u8 0))), (259, .cell (.d .nilf)), (260, .cell (.d .nilp)), (261, .cell (.d (.int .i32 0))), (262, .cell (.d (.int .i32 0))), (263, .agg [.d (.int .u64 0), .d (.int .u64 0), .d (.int .u32 0), .d (.int .u8 0), .d (.int .u8 0), .d (.int .u8 0), .d (.int .u8 0), .d .nilf, .d .nilp, .d (.int .i32 0), .d (.int .i32 0)] [(0, 1, false), (1, 1, false), (2, 1, false), (3, 1, false), (4, 1, false), (5, 1, false), (6, 1, false), (7, 1, false), (8, 1, false), (9, 1, false), (10, 1, false)]), (264, .agg [.d (.int .u64 0), .d (.int .u64 0), .d (.int .u32 0), .d (.int .u8 0), .d (.int .u8 0), .d (.int .u8 0), .d (.int .u8 0), .d .nilf, .d .nilp, .d (.int .i32 0), .d (.int .i32 0)] [(0, 1, false), (1, 1, false), (2, 1, false), (3, 1, false), (4, 1, false), (5, 1, false), (6, 1, false), (7, 1, false), (8, 1, false), (9, 1, false), (10, 1, false)]), (265, .slice 10 168), (266, .agg [.d (.str []), .d (.str []), .full []] [(0, 1, false), (1, 1, false), (2, 1, false)]), (267, .agg [.d (.str []), .d (.str []), .full []] [(0, 1, false), (1, 1, false), (2, 1, false)]), (268, .slice 2 32), (269, .agg [.d (.str []), (0:Int), .d (.str []), .full [], .full [], (0:Int), .d (.str []), (0:Int), .full [], .full [], .full [], .full []] [(0, 1, false), (1, 9, true), (10, 1, false), (11, 1, false)]), (270, .agg [.d (.str []), (0:Int), .d (.str []), .full [], .full [], (0:Int), .d (.str []), (0:Int), .full [], .full [], .full [], .full []] [(0, 1, false), (1, 9, true), (10, 1, false), (11, 1, false)]), (271, .agg [.d (.str []), .full [], (0:Int), .d (.str []), (0:Int), .full []] [(0, 1, false), (1, 1, false), (2, 4, true)]), (272, .agg [.d (.str []), .full [], (0:Int), .d (.str []), (0:Int), .full []] [(0, 1, false), (1, 1, false), (2, 4, true)])]
def tl17 : List (Nat × Ty) := [(273, .cell (0:Int)), (274, .slice 2 32), (275, .slice 10 152), (276, .agg [.full [], .full [], .full [], .full [], (0:Int), .d (.str []), .full [], .full [], (0:Int), .d (.str []), (0:Int), .full [], .full [], .full []] [(0, 1, false), (1, 1, false), (2, 1, false), (3, 1, false), (4, 9, true), (13, 1, false)]), (277, .agg [.full [], .full [], .full [], .full [], (0:Int), .d (.str []), .full [], .full [], (0:Int), .d (.str []), (0:Int), .full [], .full [], .full []] [(0, 1, false), (1, 1, false), (2, 1, false), (3, 1, false), (4, 9, true), (13, 1, false)]), (278, .agg [.d (.str []), .full [], (0:Int), .d (.str []), (0:Int), .full [], .full [], .full [], .full [], (0:Int), .d (.bool false), .full [], .full [], .full [], .full [], (0:Int), .d (.str []), .full [], .full [], (0:Int), .d (.str []), (0:Int), .full [], .full [], .full []] [(0, 1, false), (1, 1, false), (2, 7, true), (9, 1, false), (10, 1, false), (11, 14, true)]), (279, .agg [.d (.str []), .full [], (0:Int), .d (.str []), (0:Int), .full [], .full [], .full [], .full [], (0:Int), .d (.bool false), .full [], .full [], .full [], .full [], (0:Int), .d (.str []), .full [], .full [], (0:Int), .d (.str []), (0:Int), .full [], .full [], .full []] [(0, 1, false), (1, 1, false), (2, 7, true), (9, 1, false), (10, 1, false), (11, 14, true)]), (280, .agg [.d (.str []), .full []] [(0, 1, false), (1, 1, false)]), (281, .agg [.d (.str []), .full []] [(0, 1, false), (1, 1, false)]), (282, .cell (.d .nilp)), (283, .agg [.d (.str []), (0:Int), .d (.str []), .full [], .full [], (0:Int), .d (.str []), (0:Int), .full [], .full []] [(0, 1, false), (1, 9, true)]), (284, .agg [.d (.str []), .d (.str [])] [(0, 1, false), (1, 1, false)]), (285, .agg [.d (.str []), .d (.str [])] [(0, 1, false), (1, 1, false)]), (286, .agg [.d (.str []), .d (.str [])] [(0, 1, false), (1, 1, false)]), (287, .agg [.d (.str []), .full [], (0:Int), .d (.str []), (0:Int), .full [], (0:Int), .d (.str []), (0:Int), .full []] [(0, 1, false), (1, 1, false), (2, 4, true), (6, 4, true)])]
def tl18 : List (Nat × Ty) := [(288, .agg [.d (.str []), .full [], (0:Int), .d (.str []), (0:Int), .full [], (0:Int), .d (.str []), (0:Int), .full []] [(0, 1, false), (1, 1, false), (2, 4, true), (6, 4, true)])]
def tl : List (Nat × Ty) := tl0 ++ (tl1 ++ (tl2 ++ (tl3 ++ (tl4 ++ (tl5 ++ (tl6 ++ (tl7 ++ (tl8 ++ (tl9 ++ (tl10 ++ (tl11 ++ (tl12 ++ (tl13 ++ (tl14 ++ (tl15 ++ (tl16 ++ (tl17 ++ (tl18))))))))))))))))))
theorem tl_ok : chkTL Tryz.prog tl = true := by kernel_rfl
theorem mixed : Tryz.prog.follows .mixedOrders = true := by kernel_rfl
theorem ev {f : FuncId} {fn : Func} {fa : FnA} {G : Nat → Option (List D)} {args : List CV} {r : CV} (hf : Tryz.prog.funcs[f]? = some fn) (htr : trFn (getTy tl) fn = some fa) (h : Body ⟨G, Ev Tryz.prog G, ItOk Tryz.prog G⟩ fa args r) : Ev Tryz.prog G f args r := ev_of_body hf htr (fun _ _ _ h => h) (fun _ _ _ h => h) rfl (fun _ _ ht => chkTL_get tl_ok ht) mixed h
theorem tr_119 : trFn (getTy tl) Tryz.f119 = some fn_pred_visit := by kernel_rfl
theorem tr_118 : trFn (getTy tl) Tryz.f118 = some fn_pred_before_1 := by kernel_rfl
theorem sys (G : Nat → Option (List D)) : Sys ⟨G, Ev Tryz.prog G, ItOk Tryz.prog G⟩ where
 l34_MeasureWrites _ _ := ev Tryz.func3 (by kernel_rfl)
 l34_MeasureSymbols _ _ := ev Tryz.func4 (by kernel_rfl)
 l34_MeasureParts _ _ := ev Tryz.func5 (by kernel_rfl)
 l34_MeasureHolds _ _ := ev Tryz.func6 (by kernel_rfl)
 l34_light _ _ := ev Tryz.func7 (by kernel_rfl)
 r07_Nodes _ _ := ev Tryz.func8 (by kernel_rfl)
 l34_awake _ _ := ev Tryz.func9 (by kernel_rfl)
 r07_Same _ _ := ev Tryz.func10 (by kernel_rfl)
 measure_Equations _ _ := ev Tryz.func11 (by kernel_rfl)
 r34_Equations _ _ := ev Tryz.func12 (by kernel_rfl)
 measure_Invariants _ _ := ev Tryz.func13 (by kernel_rfl)
 r34_Invariants _ _ := ev Tryz.func14 (by kernel_rfl)
 l34_few _ _ := ev Tryz.func15 (by kernel_rfl)
 r34_SameFacts _ _ := ev Tryz.func16 (by kernel_rfl)
 measure_Symbols _ _ := ev Tryz.func17 (by kernel_rfl)
 r34_Symbols _ _ := ev Tryz.func18 (by kernel_rfl)
 r34_Parts _ _ := ev Tryz.func19 (by kernel_rfl)
 r29_Same _ _ := ev Tryz.func20 (by kernel_rfl)
 l34_v _ _ := ev Tryz.func21 (by kernel_rfl)
 l34_proper _ _ := ev Tryz.func22 (by kernel_rfl)
 meaning_Holds _ _ := ev Tryz.func23 (by kernel_rfl)
 l34_apps _ _ := ev Tryz.func24 (by kernel_rfl)
 measure_Value _ _ := ev Tryz.func25 (by kernel_rfl)
 l34_lists _ _ := ev Tryz.func26 (by kernel_rfl)
 l34_cons _ _ := ev Tryz.func27 (by kernel_rfl)
 l34_two _ _ := ev Tryz.func28 (by kernel_rfl)
 l34_app _ _ := ev Tryz.func29 (by kernel_rfl)
 l34_n _ _ := ev Tryz.func30 (by kernel_rfl)
 measure_Obligations _ _ := ev Tryz.func31 (by kernel_rfl)
 r07_Split _ _ := ev Tryz.func32 (by kernel_rfl)
 syntax_Con _ _ := ev Tryz.func33 (by kernel_rfl)
 pred_And _ _ := ev Tryz.func34 (by kernel_rfl)
 measure_op _ _ := ev Tryz.func35 (by kernel_rfl)
 measure_app _ _ := ev Tryz.func36 (by kernel_rfl)
 measure_number _ _ := ev Tryz.func37 (by kernel_rfl)
 measure_caseOf _ _ := ev Tryz.func38 (by kernel_rfl)
 pred_SubstAll _ _ := ev Tryz.func39 (by kernel_rfl)
 r20_Con _ _ := ev Tryz.func40 (by kernel_rfl)
 r07_And _ _ := ev Tryz.func41 (by kernel_rfl)
 r34_two _ _ := ev Tryz.func42 (by kernel_rfl)
 r34_apply _ _ := ev Tryz.func43 (by kernel_rfl)
 r34_number _ _ := ev Tryz.func44 (by kernel_rfl)
 r34_Measures _ _ := ev Tryz.func45 (by kernel_rfl)
 r34_Case _ _ := ev Tryz.func46 (by kernel_rfl)
 r07_SubstAll _ _ := ev Tryz.func47 (by kernel_rfl)
 syntax_Data _ _ := ev Tryz.func48 (by kernel_rfl)
 pred_Same _ _ := ev Tryz.func49 (by kernel_rfl)
 pred_Subst _ _ := ev Tryz.func50 (by kernel_rfl)
 r20_Data _ _ := ev Tryz.func51 (by kernel_rfl)
 r34_zero _ _ := ev Tryz.func52 (by kernel_rfl)
 r07_Subst _ _ := ev Tryz.func53 (by kernel_rfl)
 l34_size _ _ := ev Tryz.func54 (by kernel_rfl)
 measure_parts _ _ := ev Tryz.func55 (by kernel_rfl)
 r34_About _ _ := ev Tryz.func56 (by kernel_rfl)
 r20_SameNames _ _ := ev Tryz.func57 (by kernel_rfl)
 r29_sameBinds _ _ := ev Tryz.func58 (by kernel_rfl)
 r29_SameBodies _ _ := ev Tryz.func59 (by kernel_rfl)
 r07_Check _ _ := ev Tryz.func60 (by kernel_rfl)
 meaning_Eval _ _ := ev Tryz.func61 (by kernel_rfl)
 measure_find _ _ := ev Tryz.func62 (by kernel_rfl)
 pred_Check _ _ := ev Tryz.func63 (by kernel_rfl)
 pred_Free _ _ := ev Tryz.func64 (by kernel_rfl)
 measure_body_flat _ _ := ev Tryz.func65 (by kernel_rfl)
 measure_obligation _ _ := ev Tryz.func66 (by kernel_rfl)
 r07_Void _ _ := ev Tryz.func67 (by kernel_rfl)
 pred_constant _ _ := ev Tryz.func68 (by kernel_rfl)
 pred_void _ _ := ev Tryz.func69 (by kernel_rfl)
 pred_copied _ _ := ev Tryz.func70 (by kernel_rfl)
 slices_IndexFunc_api_Case_api_Case _ _ := ev Tryz.func71 (by kernel_rfl)
 measure_caseOf_1 _ _ := ev Tryz.func72 (by kernel_rfl)
 names_Find _ _ := ev Tryz.func73 (by kernel_rfl)
 r07_True _ _ := ev Tryz.func74 (by kernel_rfl)
 r07_False _ _ := ev Tryz.func75 (by kernel_rfl)
 r04_Find _ _ := ev Tryz.func76 (by kernel_rfl)
 r07_with _ _ := ev Tryz.func77 (by kernel_rfl)
 pred_equal_api_Pred _ _ := ev Tryz.func78 (by kernel_rfl)
 slices_ContainsFunc_api_Value_api_Value _ _ := ev Tryz.func79 (by kernel_rfl)
 measure_parts_1 _ _ := ev Tryz.func80 (by kernel_rfl)
 value_Same _ _ := ev Tryz.func81 (by kernel_rfl)
 r34_Value _ _ := ev Tryz.func82 (by kernel_rfl)
 r20_Same _ _ := ev Tryz.func83 (by kernel_rfl)
 r07_Depth _ _ := ev Tryz.func84 (by kernel_rfl)
 r07_form _ _ := ev Tryz.func85 (by kernel_rfl)
 meaning_evaluator_value _ _ := ev Tryz.func86 (by kernel_rfl)
 slices_IndexFunc_api_Measure_api_Measure _ _ := ev Tryz.func87 (by kernel_rfl)
 measure_find_1 _ _ := ev Tryz.func88 (by kernel_rfl)
 pred_Nodes _ _ := ev Tryz.func89 (by kernel_rfl)
 pred_Depth _ _ := ev Tryz.func90 (by kernel_rfl)
 pred_before _ _ := ev Tryz.func91 (by kernel_rfl)
 pred_node _ _ := ev Tryz.func92 (by kernel_rfl)
 names_Fresh _ _ := ev Tryz.func94 (by kernel_rfl)
 measure_variable _ _ := ev Tryz.func95 (by kernel_rfl)
 sort_Of _ _ := ev Tryz.func96 (by kernel_rfl)
 pred_Split _ _ := ev Tryz.func97 (by kernel_rfl)
 slices_Index_string_string _ _ := ev Tryz.func99 (by kernel_rfl)
 slices_IndexFunc_api_Value_api_Value _ _ := ev Tryz.func100 (by kernel_rfl)
 slices_EqualFunc_api_Value_api_Value_api_Value_api_Value _ _ := ev Tryz.func101 (by kernel_rfl)
 slices_Equal_string_string _ _ := ev Tryz.func102 (by kernel_rfl)
 slices_EqualFunc_api_Expr_api_Expr_api_Expr_api_Expr _ _ := ev Tryz.func103 (by kernel_rfl)
 syntax_Same _ _ := ev Tryz.func104 (by kernel_rfl)
 slices_EqualFunc_api_Bind_api_Bind_api_Bind_api_Bind _ _ := ev Tryz.func105 (by kernel_rfl)
 value_Same_1 _ _ := ev Tryz.func106 (by kernel_rfl)
 r34_find _ _ := ev Tryz.func107 (by kernel_rfl)
 r34_body _ _ := ev Tryz.func108 (by kernel_rfl)
 r20_sameParams _ _ := ev Tryz.func109 (by kernel_rfl)
 r20_SameTypes _ _ := ev Tryz.func110 (by kernel_rfl)
 r07_node _ _ := ev Tryz.func111 (by kernel_rfl)
 meaning_Find _ _ := ev Tryz.func112 (by kernel_rfl)
 num_In _ _ := ev Tryz.func113 (by kernel_rfl)
 meaning_evaluator_fact _ _ := ev Tryz.func114 (by kernel_rfl)
 num_Sub _ _ := ev Tryz.func115 (by kernel_rfl)
 meaning_truth _ _ := ev Tryz.func116 (by kernel_rfl)
 meaning_operation _ _ := ev Tryz.func117 (by kernel_rfl)
 pred_before_1 _ _ := ev Tryz.func118 tr_118
 pred_visit _ _ := ev Tryz.func119 tr_119
 pred_kids _ _ := ev Tryz.func120 (by kernel_rfl)
 pred_named _ _ := ev Tryz.func121 (by kernel_rfl)
 names_Core _ _ := ev Tryz.func122 (by kernel_rfl)
 strconv_Itoa _ _ := ev Tryz.func125 (by kernel_rfl)
 pred_Apps _ _ := ev Tryz.func127 (by kernel_rfl)
 slices_EqualFunc_api_Type_api_Type_api_Type_api_Type _ _ := ev Tryz.func131 (by kernel_rfl)
 syntax_sameType _ _ := ev Tryz.func132 (by kernel_rfl)
 slices_EqualFunc_api_Param_api_Param_api_Param_api_Param _ _ := ev Tryz.func133 (by kernel_rfl)
 syntax_Same_1 _ _ := ev Tryz.func134 (by kernel_rfl)
 slices_EqualFunc_api_Alt_api_Alt_api_Alt_api_Alt _ _ := ev Tryz.func135 (by kernel_rfl)
 syntax_Same_2 _ _ := ev Tryz.func136 (by kernel_rfl)
 r34_field _ _ := ev Tryz.func137 (by kernel_rfl)
 r01_In _ _ := ev Tryz.func138 (by kernel_rfl)
 r34_operation _ _ := ev Tryz.func139 (by kernel_rfl)
 r20_SameType _ _ := ev Tryz.func140 (by kernel_rfl)
 r07_named _ _ := ev Tryz.func141 (by kernel_rfl)
 r07_kids _ _ := ev Tryz.func142 (by kernel_rfl)
 r07_called _ _ := ev Tryz.func143 (by kernel_rfl)
 slices_Equal_int_int _ _ := ev Tryz.func144 (by kernel_rfl)
 num_checked _ _ := ev Tryz.func145 (by kernel_rfl)
 num_Add _ _ := ev Tryz.func146 (by kernel_rfl)
 num_Mul _ _ := ev Tryz.func147 (by kernel_rfl)
 names_cut _ _ := ev Tryz.func148 (by kernel_rfl)
 names_name _ _ := ev Tryz.func149 (by kernel_rfl)
 names_title _ _ := ev Tryz.func150 (by kernel_rfl)
 names_sized _ _ := ev Tryz.func151 (by kernel_rfl)
 names_alphanumeric _ _ := ev Tryz.func152 (by kernel_rfl)
 names_word _ _ := ev Tryz.func153 (by kernel_rfl)
 pred_inner _ _ := ev Tryz.func158 (by kernel_rfl)
 slices_EqualFunc_api_Pred_api_Pred_api_Pred_api_Pred _ _ := ev Tryz.func160 (by kernel_rfl)
 r01_Add _ _ := ev Tryz.func161 (by kernel_rfl)
 r01_Sub _ _ := ev Tryz.func162 (by kernel_rfl)
 r01_Mul _ _ := ev Tryz.func163 (by kernel_rfl)
 r34_is _ _ := ev Tryz.func164 (by kernel_rfl)
 r04_Core _ _ := ev Tryz.func165 (by kernel_rfl)
 num_abs _ _ := ev Tryz.func166 (by kernel_rfl)
 names_small _ _ := ev Tryz.func167 (by kernel_rfl)
 names_Keyword _ _ := ev Tryz.func168 (by kernel_rfl)
 names_digit _ _ := ev Tryz.func169 (by kernel_rfl)
 names_capital _ _ := ev Tryz.func170 (by kernel_rfl)
 pred_has_api_Pred _ _ := ev Tryz.func183 (by kernel_rfl)
 r01_result _ _ := ev Tryz.func184 (by kernel_rfl)
 r04_parts _ _ := ev Tryz.func185 (by kernel_rfl)
 r04_Check _ _ := ev Tryz.func186 (by kernel_rfl)
 r04_Title _ _ := ev Tryz.func187 (by kernel_rfl)
 r04_part _ _ := ev Tryz.func188 (by kernel_rfl)
 r04_small _ _ := ev Tryz.func199 (by kernel_rfl)
 r04_Keyword _ _ := ev Tryz.func200 (by kernel_rfl)
 r04_digit _ _ := ev Tryz.func201 (by kernel_rfl)
 r04_capital _ _ := ev Tryz.func202 (by kernel_rfl)
 r04_keywords _ _ := ev Tryz.func208 (by kernel_rfl)
def X (G : Nat → Option (List D)) : AEnv := ⟨G, Ev Tryz.prog G, ItOk Tryz.prog G⟩
theorem before_it (G : Nat → Option (List D)) (p : Pred) : ItOk Tryz.prog G pred_before_1 [.ref (Pred.cells p)] (yields p.pre) := before_1_ok (P := Tryz.prog) (T := getTy tl) (fun _ _ ht => chkTL_get tl_ok ht) Tryz.func119 tr_119 Tryz.func118 tr_118 p
def G0 : Nat → Option (List D) := fun g => if g = 0 then some (kws.map .str) else none
end Go.Abs.Seat
end
section
namespace Go.Proofs
open Go.Shelf
def Tryz.lays190_ren : Go.Shelf.Ren := ⟨fun | 190 => 123 | 125 => 155 | 258 => 154 | 128 => 180 | 129 => 181 | 302 => 171 | 303 => 172 | 304 => 173 | 305 => 174 | 306 => 175 | 307 => 176 | 308 => 177 | 309 => 178 | 310 => 179 | 333 => 189 | 329 => 190 | 330 => 191 | 334 => 192 | 335 => 193 | 336 => 194 | 344 => 203 | n => n, fun | 31 => 46 | 9 => 9 | 3 => 3 | 46 => 210 | 0 => 0 | 51 => 225 | 53 => 227 | 4 => 4 | 183 => 218 | 182 => 217 | 131 => 78 | 5 => 5 | 218 => 232 | 222 => 236 | 228 => 243 | 229 => 105 | n => n, fun | n => n⟩
theorem Tryz.lays190 : Go.Proofs.Lays.n190 Tryz.prog Tryz.lays190_ren := {
 mixed := by kernel_rfl
 f125 := Tryz.func155.trans (congrArg some (by kernel_rfl))
 f128 := Tryz.func180.trans (congrArg some (by kernel_rfl))
 f129 := Tryz.func181.trans (congrArg some (by kernel_rfl))
 f190 := Tryz.func123.trans (congrArg some (by kernel_rfl))
 f258 := Tryz.func154.trans (congrArg some (by kernel_rfl))
 f302 := Tryz.func171.trans (congrArg some (by kernel_rfl))
 f303 := Tryz.func172.trans (congrArg some (by kernel_rfl))
 f304 := Tryz.func173.trans (congrArg some (by kernel_rfl))
 f305 := Tryz.func174.trans (congrArg some (by kernel_rfl))
 f306 := Tryz.func175.trans (congrArg some (by kernel_rfl))
 f307 := Tryz.func176.trans (congrArg some (by kernel_rfl))
 f308 := Tryz.func177.trans (congrArg some (by kernel_rfl))
 f309 := Tryz.func178.trans (congrArg some (by kernel_rfl))
 f310 := Tryz.func179.trans (congrArg some (by kernel_rfl))
 f329 := Tryz.func190.trans (congrArg some (by kernel_rfl))
 f330 := Tryz.func191.trans (congrArg some (by kernel_rfl))
 f333 := Tryz.func189.trans (congrArg some (by kernel_rfl))
 f334 := Tryz.func192.trans (congrArg some (by kernel_rfl))
 f335 := Tryz.func193.trans (congrArg some (by kernel_rfl))
 f336 := Tryz.func194.trans (congrArg some (by kernel_rfl))
 f344 := Tryz.func203.trans (congrArg some (by kernel_rfl))
 t0 := Tryz.underlying0
 a0 := Tryz.isAgg0
 z0 := Tryz.sizeOf0
 v0 := Tryz.zeroValue0
 t3 := Tryz.underlying3
 a3 := Tryz.isAgg3
 z3 := Tryz.sizeOf3
 v3 := Tryz.zeroValue3
 t4 := Tryz.underlying4
 a4 := Tryz.isAgg4
 z4 := Tryz.sizeOf4
 v4 := Tryz.zeroValue4
 t5 := Tryz.underlying5
 a5 := Tryz.isAgg5
 z5 := Tryz.sizeOf5
 v5 := Tryz.zeroValue5
 t9 := Tryz.underlying9
 a9 := Tryz.isAgg9
 z9 := Tryz.sizeOf9
 v9 := Tryz.zeroValue9
 t31 := Tryz.underlying46
 a31 := Tryz.isAgg46
 z31 := Tryz.sizeOf46
 v31 := Tryz.zeroValue46
 t46 := Tryz.underlying210
 a46 := Tryz.isAgg210
 z46 := Tryz.sizeOf210
 v46 := Tryz.zeroValue210
 t51 := Tryz.underlying225
 a51 := Tryz.isAgg225
 z51 := Tryz.sizeOf225
 v51 := Tryz.zeroValue225
 t53 := Tryz.underlying227
 a53 := Tryz.isAgg227
 z53 := Tryz.sizeOf227
 v53 := Tryz.zeroValue227
 t131 := Tryz.underlying78
 a131 := Tryz.isAgg78
 z131 := Tryz.sizeOf78
 v131 := Tryz.zeroValue78
 t182 := Tryz.underlying217
 a182 := Tryz.isAgg217
 z182 := Tryz.sizeOf217
 v182 := Tryz.zeroValue217
 t183 := Tryz.underlying218
 a183 := Tryz.isAgg218
 z183 := Tryz.sizeOf218
 v183 := Tryz.zeroValue218
 t218 := Tryz.underlying232
 a218 := Tryz.isAgg232
 z218 := Tryz.sizeOf232
 v218 := Tryz.zeroValue232
 t222 := Tryz.underlying236
 a222 := Tryz.isAgg236
 z222 := Tryz.sizeOf236
 v222 := Tryz.zeroValue236
 t228 := Tryz.underlying243
 a228 := Tryz.isAgg243
 z228 := Tryz.sizeOf243
 v228 := Tryz.zeroValue243
 t229 := Tryz.underlying105
 a229 := Tryz.isAgg105
 z229 := Tryz.sizeOf105
 v229 := Tryz.zeroValue105 }
open Go.Sort Go.RowKit in
theorem Tryz.slices_Sort_string (blk off cap : Nat) (ss : List (List UInt8)) (w : World) (hH : Holds encStr w blk off ss.toArray) (hblk : blk < w.heap.size) (hsz : ss.length < 4611686018427387904) :
  Calls Tryz.prog 123 #[.slice (some ⟨blk, off, none⟩) ss.length cap] w fun e w' =>
   e = .returned (.tuple #[]) ∧ ∃ n os, w' = grow (putRow encStr (Sort.ahead w n) blk off (ss.mergeSort fun x y => decide (x ≤ y)).toArray) os := Any.slices_Sort_string Tryz.lays190 blk off cap ss w hH hblk hsz
def Tryz.lays194_ren : Go.Shelf.Ren := ⟨fun | 194 => 124 | n => n, fun | 31 => 46 | 9 => 9 | 3 => 3 | 4 => 4 | 0 => 0 | n => n, fun | n => n⟩
theorem Tryz.lays194 : Go.Proofs.Lays.n194 Tryz.prog Tryz.lays194_ren := {
 mixed := by kernel_rfl
 f194 := Tryz.func124.trans (congrArg some (by kernel_rfl))
 t0 := Tryz.underlying0
 a0 := Tryz.isAgg0
 z0 := Tryz.sizeOf0
 v0 := Tryz.zeroValue0
 t3 := Tryz.underlying3
 a3 := Tryz.isAgg3
 z3 := Tryz.sizeOf3
 v3 := Tryz.zeroValue3
 t4 := Tryz.underlying4
 a4 := Tryz.isAgg4
 z4 := Tryz.sizeOf4
 v4 := Tryz.zeroValue4
 t9 := Tryz.underlying9
 a9 := Tryz.isAgg9
 z9 := Tryz.sizeOf9
 v9 := Tryz.zeroValue9
 t31 := Tryz.underlying46
 a31 := Tryz.isAgg46
 z31 := Tryz.sizeOf46
 v31 := Tryz.zeroValue46 }
open Go.RowKit Go.Lib Go.Sort in
theorem Tryz.slices_Compact_string (blk off cap : Nat) (zs : List (List UInt8)) (w : World) (hH : Holds encStr w blk off zs.toArray) (hsz : zs.length ≤ 9223372036854775807) (hcap : zs.length ≤ cap) :
  Calls Tryz.prog 124 #[.slice (some ⟨blk, off, none⟩) zs.length cap] w fun e w' => e = .returned (.slice (some ⟨blk, off, none⟩) (Lib.compact zs).length cap) ∧ ∃ q, w' = putRow encStr (Sort.ahead w q) blk off (Lib.compact zs ++ List.replicate (zs.length - (Lib.compact zs).length) []).toArray := Any.slices_Compact_string Tryz.lays194 blk off cap zs w hH hsz hcap
open Go.RowKit Go.Lib Go.Sort in
theorem Tryz.slices_Compact_string_empty (a : Option Addr) (cap : Nat) (w : World) :
  Calls Tryz.prog 124 #[.slice a 0 cap] w fun e w' => e = .returned (.slice a 0 cap) ∧ w' = w := Any.slices_Compact_string_empty Tryz.lays194 a cap w
open Go.RowKit Go.Sort in
theorem Tryz.slices_Sort_string_none (p : Option Addr) (cap : Nat) (w : World) :
  Calls Tryz.prog 123 #[.slice p 0 cap] w fun e w' => e = .returned (.tuple #[]) ∧ w' = w := Any.slices_Sort_string_none Tryz.lays190 p cap w
end Go.Proofs
end
section
namespace Go.Abs.Seat
open Go Go.Abs Go.Proofs
theorem union_own (G : Nat → Option (List D)) : UnionOwn (X G) := fun a b h =>
 union_ev (P := Tryz.prog) (T := getTy tl) (eb := 16) (cd := Tryz.f93.body.getD .ret) Tryz.func93 (by kernel_rfl) (by kernel_rfl)
  (show (segs (Tryz.f93.body.getD .ret)).map (fun l => l.map fun p => p.2.toList.map opc) = some (unionOps 46 123 124) by kernel_rfl) (by kernel_rfl) (by kernel_rfl) (fun _ _ ht => chkTL_get tl_ok ht) (chkTL_get tl_ok (show getTy tl 46 = some (.slice 1 16) by kernel_rfl)) (by decide)
  ⟨Tryz.f123, Tryz.func123, by kernel_rfl, by kernel_rfl⟩ ⟨Tryz.f124, Tryz.func124, by kernel_rfl, by kernel_rfl⟩
  (fun blk off cap ss w h1 h2 h3 => Tryz.slices_Sort_string blk off cap ss w h1 h2 h3) (fun blk off cap zs w h1 h2 h3 => Tryz.slices_Compact_string blk off cap zs w h1 h2 h3) a b h
theorem law34 (G : Nat → Option (List D)) (hG : G 0 = some (kws.map .str)) (hI : ItoaLaw (X G)) : Law34 (X G) where
 Z := sys G
 hG := hG
 hIt := before_it G
 hU := union_own G
 hI := hI
end Go.Abs.Seat
end
section
namespace Go.Proofs
open Go.Shelf
def Tryz.laysM171_ren : Go.Shelf.Ren := ⟨fun | 171 => 125 | 243 => 156 | 246 => 182 | 283 => 195 | 284 => 196 | 285 => 197 | 286 => 198 | 129 => 181 | 317 => 204 | 318 => 205 | 319 => 206 | 320 => 207 | 337 => 209 | 338 => 210 | n => n, fun | 3 => 3 | 9 => 9 | 2 => 2 | 4 => 4 | 171 => 238 | 0 => 0 | 53 => 227 | 37 => 240 | 5 => 5 | 173 => 241 | 212 => 245 | 51 => 225 | 20 => 20 | 213 => 246 | 46 => 210 | 232 => 248 | 233 => 249 | n => n, fun | 17 => 1 | 18 => 2 | 19 => 3 | n => n⟩
theorem Tryz.laysM171 : Go.Proofs.LaysM.n171 Tryz.prog Tryz.laysM171_ren := {
 mixed := by kernel_rfl
 f129 := Tryz.func181.trans (congrArg some (by kernel_rfl))
 f171 := Tryz.func125.trans (congrArg some (by kernel_rfl))
 f243 := Tryz.func156.trans (congrArg some (by kernel_rfl))
 f246 := Tryz.func182.trans (congrArg some (by kernel_rfl))
 f283 := Tryz.func195.trans (congrArg some (by kernel_rfl))
 f284 := Tryz.func196.trans (congrArg some (by kernel_rfl))
 f285 := Tryz.func197.trans (congrArg some (by kernel_rfl))
 f286 := Tryz.func198.trans (congrArg some (by kernel_rfl))
 f317 := Tryz.func204.trans (congrArg some (by kernel_rfl))
 f318 := Tryz.func205.trans (congrArg some (by kernel_rfl))
 f319 := Tryz.func206.trans (congrArg some (by kernel_rfl))
 f320 := Tryz.func207.trans (congrArg some (by kernel_rfl))
 f337 := Tryz.func209.trans (congrArg some (by kernel_rfl))
 f338 := Tryz.func210.trans (congrArg some (by kernel_rfl))
 t0 := Tryz.underlying0
 a0 := Tryz.isAgg0
 z0 := Tryz.sizeOf0
 v0 := Tryz.zeroValue0
 t2 := Tryz.underlying2
 a2 := Tryz.isAgg2
 z2 := Tryz.sizeOf2
 v2 := Tryz.zeroValue2
 t3 := Tryz.underlying3
 a3 := Tryz.isAgg3
 z3 := Tryz.sizeOf3
 v3 := Tryz.zeroValue3
 t4 := Tryz.underlying4
 a4 := Tryz.isAgg4
 z4 := Tryz.sizeOf4
 v4 := Tryz.zeroValue4
 t5 := Tryz.underlying5
 a5 := Tryz.isAgg5
 z5 := Tryz.sizeOf5
 v5 := Tryz.zeroValue5
 t9 := Tryz.underlying9
 a9 := Tryz.isAgg9
 z9 := Tryz.sizeOf9
 v9 := Tryz.zeroValue9
 t20 := Tryz.underlying20
 a20 := Tryz.isAgg20
 z20 := Tryz.sizeOf20
 v20 := Tryz.zeroValue20
 t37 := Tryz.underlying240
 a37 := Tryz.isAgg240
 z37 := Tryz.sizeOf240
 v37 := Tryz.zeroValue240
 t46 := Tryz.underlying210
 a46 := Tryz.isAgg210
 z46 := Tryz.sizeOf210
 v46 := Tryz.zeroValue210
 t51 := Tryz.underlying225
 a51 := Tryz.isAgg225
 z51 := Tryz.sizeOf225
 v51 := Tryz.zeroValue225
 t53 := Tryz.underlying227
 a53 := Tryz.isAgg227
 z53 := Tryz.sizeOf227
 v53 := Tryz.zeroValue227
 t171 := Tryz.underlying238
 a171 := Tryz.isAgg238
 z171 := Tryz.sizeOf238
 v171 := Tryz.zeroValue238
 t173 := Tryz.underlying241
 a173 := Tryz.isAgg241
 z173 := Tryz.sizeOf241
 v173 := Tryz.zeroValue241
 t212 := Tryz.underlying245
 a212 := Tryz.isAgg245
 z212 := Tryz.sizeOf245
 v212 := Tryz.zeroValue245
 t213 := Tryz.underlying246
 a213 := Tryz.isAgg246
 z213 := Tryz.sizeOf246
 t232 := Tryz.underlying248
 a232 := Tryz.isAgg248
 z232 := Tryz.sizeOf248
 v232 := Tryz.zeroValue248
 t233 := Tryz.underlying249
 a233 := Tryz.isAgg249
 z233 := Tryz.sizeOf249
 v233 := Tryz.zeroValue249
 g17 := by kernel_rfl
 g18 := by kernel_rfl
 g19 := by kernel_rfl
 i0 := by kernel_rfl
 i2 := by kernel_rfl
 i3 := by kernel_rfl
 i4 := by kernel_rfl
 i5 := by kernel_rfl
 i9 := by kernel_rfl
 i20 := by kernel_rfl
 i37 := by kernel_rfl
 i46 := by kernel_rfl
 i51 := by kernel_rfl
 i53 := by kernel_rfl
 i171 := by kernel_rfl
 i173 := by kernel_rfl
 i212 := by kernel_rfl
 i232 := by kernel_rfl
 i233 := by kernel_rfl
 m17 := by kernel_rfl
 m18 := by kernel_rfl
 m19 := by kernel_rfl }
open Go.RowKit Go.Sort Go.Lib in
theorem Tryz.strconv_Itoa (n : Int) (h0 : -9223372036854775808 ≤ n) (h1 : n ≤ 9223372036854775807) (w : World) (htab : Lib.TabIs Tryz.prog w "internal/strconv.uint64pow10" .u64 Lib.pow10Tab) :
  Calls Tryz.prog 125 #[.int .i64 n] w fun e w' => e = .returned (.string ⟨(Lib.itoa n).toArray⟩) ∧ ∃ k os, w' = grow (w.drewN k) os := Any.strconv_Itoa Tryz.laysM171 n h0 h1 w htab
end Go.Proofs
end
section
namespace Go.Abs.Seat
open Go Go.Abs Go.Proofs
theorem itoa_of {G : Nat → Option (List D)} (hg : Tryz.prog.globalNamed "internal/strconv.uint64pow10" = some 1) (hlt : 1 < Tryz.prog.globals.size) (hen : Enters Tryz.prog strconv_Itoa) (hG : G 1 = some (Lib.pow10Tab.map (D.int .u64))) (n : Int) (hn : I64 n) :
  Ev Tryz.prog G strconv_Itoa [.one (.int .i64 n)] (.one (.str (Lib.itoa n))) := by
 refine ⟨hen, fun w S cargs hl hgl ha => ?_⟩
 have htab : Lib.TabIs Tryz.prog w "internal/strconv.uint64pow10" .u64 Lib.pow10Tab := tab_of_glob hg (hgl.1 1 _ hG) (hgl.2.2 1 _ hlt hG (by decide))
 obtain ⟨v, r, h1, h2, h3⟩ := ha
 simp only [RepCL] at h3
 subst h3
 have h2 : v = .int .i64 n := h2
 subst h2
 obtain rfl : cargs = #[.int .i64 n] := by cases cargs; simp_all
 have hlen := Lib.itoa_length_le n hn.1 hn.2
 refine (Tryz.strconv_Itoa n hn.1 hn.2 w htab).mono ?_
 rintro e w' ⟨rfl, k, os, rfl⟩
 have hb := Lib.below_grow w.heap.size w (Nat.le_refl _) k os
 refine ⟨_, S, rfl, ⟨_, rfl, rfl, by show (Lib.itoa n).toArray.size ≤ _; rw [List.size_toArray]; omega⟩, hb, fun _ _ h => h, fun _ _ h => .inl h, fun b o hs => ?_⟩
 obtain ⟨v, hv⟩ := hl b o hs
 exact ⟨v, (hb.cell (p := ⟨b, o, none⟩) (cell_lt hv)).trans hv⟩
end Go.Abs.Seat
end
section
namespace Go.Abs.Seat
open Go Go.Abs Go.Proofs Go.Proofs.YtehngpkgdcnkiaaGreatDoor Go.RowKit Go.ChangeShapes
variable {H : Type} {enc : TypeId × Value → H} {w : World}
theorem bulkOk : BulkOk (Rows.uptoBulk (H := H)) Rows.uptoBulkAll where
 one d := by
  cases d with
  | lit l => cases l <;> simp only [Rows.uptoBulk] <;> omega
  | _ => simp only [Rows.uptoBulk]; omega
 str s := by simp only [Rows.uptoBulk]; omega
 slice a b := by simp only [Rows.uptoBulk]; omega
 agg a := by simp only [Rows.uptoBulk]; omega
 cons d r := by simp only [Rows.uptoBulkAll]; omega
theorem cs1 : ∀ t ∈ [3, 4, 9, 22, 23, 24, 25, 26, 27, 30, 31, 34, 44, 45, 46, 47, 48, 69, 70, 73, 124, 125, 145, 146, 147, 265, 268, 273, 274, 275], Tryz.prog.cellsOf t = 1 := of_decide_eq_true (by kernel_rfl)
theorem c1 {t : Nat} (h : t ∈ [3, 4, 9, 22, 23, 24, 25, 26, 27, 30, 31, 34, 44, 45, 46, 47, 48, 69, 70, 73, 124, 125, 145, 146, 147, 265, 268, 273, 274, 275] := by simp) : Tryz.prog.cellsOf t = 1 := cs1 t h
theorem c33 : Tryz.prog.cellsOf 33 = 4 := by kernel_rfl
theorem c50 : Tryz.prog.cellsOf 50 = 7 := by kernel_rfl
theorem c29 : Tryz.prog.cellsOf 29 = 6 := by kernel_rfl
theorem c127 : Tryz.prog.cellsOf 127 = 9 := by kernel_rfl
theorem c72 : Tryz.prog.cellsOf 72 = 4 := by kernel_rfl
theorem c129 : Tryz.prog.cellsOf 129 = 3 := by kernel_rfl
theorem c75 : Tryz.prog.cellsOf 75 = 8 := by kernel_rfl
theorem c77 : Tryz.prog.cellsOf 77 = 6 := by kernel_rfl
theorem c149 : Tryz.prog.cellsOf 149 = 7 := by kernel_rfl
theorem c174 : Tryz.prog.cellsOf 174 = 9 := by kernel_rfl
theorem c196 : Tryz.prog.cellsOf 196 = 10 := by kernel_rfl
theorem c143 : Tryz.prog.cellsOf 143 = 8 := by kernel_rfl
theorem c36 : Tryz.prog.cellsOf 36 = 6 := by kernel_rfl
theorem rd_pred (n : Nat) : ReadsAt enc Tryz.prog w Rows.uptoBulk n 33 Pred.cells Pred.sz :=
 reads_pred bulkOk Tryz.underlying33 Tryz.underlying31 Tryz.underlying9 Tryz.underlying3 Tryz.underlying30 c33 c1 c1 c1 c1 n
theorem rd_preds (n : Nat) : ReadsAt enc Tryz.prog w Rows.uptoBulk n 30 (fun l : List Pred => [.lst (l.map Pred.cells)]) (fun l => (l.map Pred.sz).sum + 1) :=
 reads_slice' bulkOk Tryz.underlying30 (by rw [c33]; decide) (fun x => by rw [c33]; exact Pred.cells_length x) rd_pred n
theorem rd_str (n : Nat) : ReadsAt enc Tryz.prog w Rows.uptoBulk n 9 (fun x : List UInt8 => [.str x]) (fun x => x.length + 1) := reads_str bulkOk Tryz.underlying9
theorem anyOk : [3, 4, 9, 23, 24, 26, 27, 30, 31, 32, 33, 34, 46, 47, 69, 124, 125, 126, 127, 145, 146, 147, 148, 149, 162, 163, 173, 174, 195, 196, 265, 266, 267, 268, 269, 270, 271, 272, 273, 274, 275, 276, 277, 278, 279, 283, 284, 285, 286, 287, 288].all (plainT Tryz.prog [3, 4, 9, 23, 24, 26, 27, 30, 31, 32, 33, 34, 46, 47, 69, 124, 125, 126, 127, 145, 146, 147, 148, 149, 162, 163, 173, 174, 195, 196, 265, 266, 267, 268, 269, 270, 271, 272, 273, 274, 275, 276, 277, 278, 279, 283, 284, 285, 286, 287, 288]) = true := by kernel_rfl
theorem rd_any {t : Nat} (n : Nat) (h : t ∈ [3, 4, 9, 23, 24, 26, 27, 30, 31, 32, 33, 34, 46, 47, 69, 124, 125, 126, 127, 145, 146, 147, 148, 149, 162, 163, 173, 174, 195, 196, 265, 266, 267, 268, 269, 270, 271, 272, 273, 274, 275, 276, 277, 278, 279, 283, 284, 285, 286, 287, 288] := by simp) (h1 : t ∈ [3, 4, 9, 22, 23, 24, 25, 26, 27, 30, 31, 34, 44, 45, 46, 47, 48, 69, 70, 73, 124, 125, 145, 146, 147, 265, 268, 273, 274, 275] := by simp) : ReadsAt enc Tryz.prog w Rows.uptoBulk n t (fun x : D => [x]) (fun _ => 0) := reads_one bulkOk anyOk h (c1 h1) n
theorem rd_strs (n : Nat) : ReadsAt enc Tryz.prog w Rows.uptoBulk n 46 (fun l : List (List UInt8) => [.lst (l.map fun k => [.str k])]) (fun l => (l.map fun k => k.length + 1).sum + 1) := reads_slice' bulkOk Tryz.underlying46 (by rw [c1]; decide) (fun x => by rw [c1]; rfl) rd_str n
theorem rd_int (n : Nat) : ReadsAt enc Tryz.prog w Rows.uptoBulk n 3 (fun x : Int => [.int .i64 x]) (fun _ => 1) := reads_int bulkOk Tryz.underlying3
theorem rd_typs_of {n : Nat} (ih : ∀ m < n, ReadsAt enc Tryz.prog w Rows.uptoBulk m 127 TyV.cells (fun _ => 0)) : ReadsAt enc Tryz.prog w Rows.uptoBulk n 125 (fun l : List TyV => [.lst (l.map TyV.cells)]) (fun l => (l.map (fun _ => 0)).sum) := by
 cases n with
 | zero => exact reads_zero
 | succ m => exact reads_map (reads_slice bulkOk Tryz.underlying125 (by rw [c127]; decide) (fun x => by rw [c127]; exact TyV.cells_length x) (ih m (by omega))) (fun l => l) (fun _ => rfl) (fun _ => Nat.le_succ _)
theorem rd_typ (n : Nat) : ReadsAt enc Tryz.prog w Rows.uptoBulk n 127 TyV.cells (fun _ => 0) := by
 induction n using Nat.strongRecOn with | _ n ih =>
 cases n with
 | zero => exact reads_zero
 | succ n =>
  have hk := rd_typs_of (n := n) fun m hm => ih m (by omega)
  have h := reads_rec6 bulkOk Tryz.underlying127 c127 c1 (fun _ => rfl) (reads_int (k := .i64) bulkOk Tryz.underlying124) c1 (fun _ => rfl) (reads_str bulkOk Tryz.underlying9) c1 (fun _ => rfl) hk c1 (fun _ => rfl) (rd_strs n) c33 (fun x => Pred.cells_length x) (rd_pred n) c1 (fun _ => rfl) (rd_preds n)
  exact reads_map h (fun x => TyV.mk x.1 x.2.1 x.2.2.1 x.2.2.2.1 x.2.2.2.2.1 x.2.2.2.2.2.1) (fun x => by rw [TyV.cells_mk]; simp) (fun _ => Nat.zero_le _)
theorem rd_pars_of {n : Nat} (ih : ∀ m < n, ReadsAt enc Tryz.prog w Rows.uptoBulk m 196 ParV.cells (fun _ => 0)) : ReadsAt enc Tryz.prog w Rows.uptoBulk n 146 (fun l : List ParV => [.lst (l.map ParV.cells)]) (fun l => (l.map (fun _ => 0)).sum) := by
 cases n with
 | zero => exact reads_zero
 | succ m => exact reads_map (reads_slice bulkOk Tryz.underlying146 (by rw [c196]; decide) (fun x => by rw [c196]; exact ParV.cells_length x) (ih m (by omega))) (fun l => l) (fun _ => rfl) (fun _ => Nat.le_succ _)
theorem rd_exps_of {n : Nat} (ih : ∀ m < n, ReadsAt enc Tryz.prog w Rows.uptoBulk m 149 ExV.cells (fun _ => 0)) : ReadsAt enc Tryz.prog w Rows.uptoBulk n 47 (fun l : List ExV => [.lst (l.map ExV.cells)]) (fun l => (l.map (fun _ => 0)).sum) := by
 cases n with
 | zero => exact reads_zero
 | succ m => exact reads_map (reads_slice bulkOk Tryz.underlying47 (by rw [c149]; decide) (fun x => by rw [c149]; exact ExV.cells_length x) (ih m (by omega))) (fun l => l) (fun _ => rfl) (fun _ => Nat.le_succ _)
theorem rd_alts_of {n : Nat} (ih : ∀ m < n, ReadsAt enc Tryz.prog w Rows.uptoBulk m 174 AltV.cells (fun _ => 0)) : ReadsAt enc Tryz.prog w Rows.uptoBulk n 147 (fun l : List AltV => [.lst (l.map AltV.cells)]) (fun l => (l.map (fun _ => 0)).sum) := by
 cases n with
 | zero => exact reads_zero
 | succ m => exact reads_map (reads_slice bulkOk Tryz.underlying147 (by rw [c174]; decide) (fun x => by rw [c174]; exact AltV.cells_length x) (ih m (by omega))) (fun l => l) (fun _ => rfl) (fun _ => Nat.le_succ _)
theorem rd_vals_of {n : Nat} (ih : ∀ m < n, ReadsAt enc Tryz.prog w Rows.uptoBulk m 50 Va.cells Va.cnt) : ReadsAt enc Tryz.prog w Rows.uptoBulk n 45 (fun l : List Va => [.lst (l.map Va.cells)]) (fun l => (l.map Va.cnt).sum) := by
 cases n with
 | zero => exact reads_zero
 | succ m => exact reads_map (reads_slice bulkOk Tryz.underlying45 (by rw [c50]; decide) (fun x => by rw [c50]; exact Va.cells_length x) (ih m (by omega))) (fun l => l) (fun _ => rfl) (fun _ => Nat.le_succ _)
theorem rd_bnds_of {n : Nat} (ih : ∀ m < n, ReadsAt enc Tryz.prog w Rows.uptoBulk m 143 BndV.cells (fun _ => 0)) : ReadsAt enc Tryz.prog w Rows.uptoBulk n 48 (fun l : List BndV => [.lst (l.map BndV.cells)]) (fun l => (l.map (fun _ => 0)).sum) := by
 cases n with
 | zero => exact reads_zero
 | succ m => exact reads_map (reads_slice bulkOk Tryz.underlying48 (by rw [c143]; decide) (fun x => by rw [c143]; exact BndV.cells_length x) (ih m (by omega))) (fun l => l) (fun _ => rfl) (fun _ => Nat.le_succ _)
theorem rd_par : ∀ n, ReadsAt enc Tryz.prog w Rows.uptoBulk n 196 ParV.cells (fun _ => 0)
 | 0 => reads_zero
 | n + 1 => reads_map (reads_rec2 bulkOk Tryz.underlying196 c196 c1 (fun _ => rfl) (reads_str bulkOk Tryz.underlying9) c127 (fun x => TyV.cells_length x) (rd_typ n)) (fun x => ParV.mk x.1 x.2.1) (fun x => by simp [ParV.cells]) (fun _ => Nat.zero_le _)
theorem rd_exal (n : Nat) : (ReadsAt enc Tryz.prog w Rows.uptoBulk n 149 ExV.cells (fun _ => 0)) ∧ (ReadsAt enc Tryz.prog w Rows.uptoBulk n 174 AltV.cells (fun _ => 0)) := by
 induction n using Nat.strongRecOn with | _ n ih =>
 cases n with
 | zero => exact ⟨reads_zero, reads_zero⟩
 | succ n =>
  have h1 := rd_exps_of (n := n) fun m hm => (ih m (by omega)).1
  have h2 := rd_alts_of (n := n) fun m hm => (ih m (by omega)).2
  have h3 := rd_pars_of (n := n) (enc := enc) (w := w) fun m _ => rd_par m
  have h4 := rd_typs_of (n := n) (enc := enc) (w := w) fun m _ => rd_typ m
  have h5 := (ih n (by omega)).1
  refine ⟨?_, ?_⟩
  ·have h := reads_rec7 bulkOk Tryz.underlying149 c149 c1 (fun _ => rfl) (reads_int (k := .i64) bulkOk Tryz.underlying145) c1 (fun _ => rfl) (reads_str bulkOk Tryz.underlying9) c1 (fun _ => rfl) (reads_int (k := .i64) bulkOk Tryz.underlying3) c1 (fun _ => rfl) h1 c1 (fun _ => rfl) h3 c1 (fun _ => rfl) h2 c1 (fun _ => rfl) h4
   exact reads_map h (fun x => ExV.mk x.1 x.2.1 x.2.2.1 x.2.2.2.1 x.2.2.2.2.1 x.2.2.2.2.2.1 x.2.2.2.2.2.2.1) (fun x => by rw [ExV.cells_mk]; rfl) (fun _ => Nat.zero_le _)
  ·have h := reads_rec3 bulkOk Tryz.underlying174 c174 c1 (fun _ => rfl) (reads_str bulkOk Tryz.underlying9) c1 (fun _ => rfl) (rd_strs n) c149 (fun x => ExV.cells_length x) h5
   exact reads_map h (fun x => AltV.mk x.1 x.2.1 x.2.2.1) (fun x => by rw [AltV.cells_mk]; simp) (fun _ => Nat.zero_le _)
theorem cnts_sum : ∀ l : List Va, Va.cnts l = (l.map Va.cnt).sum
 | [] => by rw [Va.cnts]; rfl
 | k :: l => by rw [Va.cnts, cnts_sum l]; rfl
theorem rd_vabn (n : Nat) : (ReadsAt enc Tryz.prog w Rows.uptoBulk n 50 Va.cells Va.cnt) ∧ (ReadsAt enc Tryz.prog w Rows.uptoBulk n 143 BndV.cells (fun _ => 0)) := by
 induction n using Nat.strongRecOn with | _ n ih =>
 cases n with
 | zero => exact ⟨reads_zero, reads_zero⟩
 | succ n =>
  have h1 := rd_vals_of (n := n) fun m hm => (ih m (by omega)).1
  have h2 := rd_exps_of (n := n) (enc := enc) (w := w) fun m _ => (rd_exal m).1
  have h3 := rd_bnds_of (n := n) fun m hm => (ih m (by omega)).2
  have h4 := (ih n (by omega)).1
  refine ⟨?_, ?_⟩
  ·have h := reads_rec7 bulkOk Tryz.underlying50 c50 c1 (fun _ => rfl) (reads_int (k := .i64) bulkOk Tryz.underlying44) c1 (fun _ => rfl) (reads_int (k := .i64) bulkOk Tryz.underlying3) c1 (fun _ => rfl) (reads_str bulkOk Tryz.underlying9) c1 (fun _ => rfl) h1 c1 (fun _ => rfl) (rd_strs n) c1 (fun _ => rfl) h2 c1 (fun _ => rfl) h3
   exact reads_map h (fun x => Va.mk x.1 x.2.1 x.2.2.1 x.2.2.2.1 x.2.2.2.2.1 x.2.2.2.2.2.1 x.2.2.2.2.2.2.1) (fun x => by rw [Va.cells_mk]; rfl) (fun x => by rw [Va.cnt_mk, cnts_sum]; omega)
  ·have h := reads_rec2 bulkOk Tryz.underlying143 c143 c1 (fun _ => rfl) (reads_str bulkOk Tryz.underlying9) c50 (fun x => Va.cells_length x) h4
   exact reads_map h (fun x => BndV.mk x.1 x.2.1) (fun x => by rw [BndV.cells_mk]; simp) (fun _ => Nat.zero_le _)
theorem rd_val (n : Nat) : ReadsAt enc Tryz.prog w Rows.uptoBulk n 50 Va.cells Va.cnt := (rd_vabn n).1
structure FldT where
 fields : List Pred
 value : Pred
 sort : List UInt8
def FldT.cells (c : FldT) : List D := .lst (c.fields.map Pred.cells) :: (c.value.cells ++ [.str c.sort])
def szF (c : FldT) : Nat := (c.fields.map Pred.sz).sum + 1 + c.value.sz
theorem rd_fld : ∀ n, ReadsAt enc Tryz.prog w Rows.uptoBulk n 36 FldT.cells szF
 | 0 => reads_zero
 | n + 1 => reads_map (reads_rec3 bulkOk Tryz.underlying36 c36 c1 (fun _ => rfl) (rd_preds n) c33 (fun x => Pred.cells_length x) (rd_pred n) c1 (fun _ => rfl) (reads_str bulkOk Tryz.underlying34)) (fun x => FldT.mk x.1 x.2.1 x.2.2.1) (fun x => by simp [FldT.cells]) (fun x => by simp only [szF]; omega)
theorem rd_con : ∀ n, ReadsAt enc Tryz.prog w Rows.uptoBulk n 129 ConT.cells (fun _ => 0)
 | 0 => reads_zero
 | n + 1 => reads_map (reads_rec3 bulkOk Tryz.underlying129 c129 c1 (fun _ => rfl) (reads_str bulkOk Tryz.underlying9) c1 (fun _ => rfl) (rd_any n) c1 (fun _ => rfl) (rd_any n)) (fun x => ConT.mk x.1 x.2.1 x.2.2.1) (fun x => rfl) (fun x => Nat.zero_le _)
theorem rd_cons (n : Nat) : ReadsAt enc Tryz.prog w Rows.uptoBulk n 70 (fun l : List ConT => [.lst (l.map ConT.cells)]) (fun l => (l.map (fun _ => 0)).sum + 1) := reads_slice' bulkOk Tryz.underlying70 (by rw [c129]; decide) (fun x => by rw [c129]; exact rfl) rd_con n
theorem rd_data : ∀ n, ReadsAt enc Tryz.prog w Rows.uptoBulk n 72 DataT.cells (fun _ => 0)
 | 0 => reads_zero
 | n + 1 => reads_map (reads_rec4 bulkOk Tryz.underlying72 c72 c1 (fun _ => rfl) (reads_str bulkOk Tryz.underlying9) c1 (fun _ => rfl) (rd_any n) c1 (fun _ => rfl) (rd_any n) c1 (fun _ => rfl) (rd_cons n)) (fun x => DataT.mk x.1 x.2.1 x.2.2.1 x.2.2.2.1) (fun x => rfl) (fun x => Nat.zero_le _)
theorem rd_datas (n : Nat) : ReadsAt enc Tryz.prog w Rows.uptoBulk n 22 (fun l : List DataT => [.lst (l.map DataT.cells)]) (fun l => (l.map (fun _ => 0)).sum + 1) := reads_slice' bulkOk Tryz.underlying22 (by rw [c72]; decide) (fun x => by rw [c72]; exact rfl) rd_data n
theorem len_sum : ∀ l : List (List UInt8), l.length ≤ (l.map fun k => k.length + 1).sum
 | [] => Nat.le_refl _
 | k :: l => by have := len_sum l; simp only [List.length_cons, List.map_cons, List.sum_cons]; omega
def szC (c : Cas) : Nat := c.body.sz + c.names.length + 1
def szM (m : Meas) : Nat := (m.cases.map szC).sum + m.inv.sz + 1
def szMod (m : Mod) : Nat := (m.meas.map szM).sum
theorem rd_case : ∀ n, ReadsAt enc Tryz.prog w Rows.uptoBulk n 77 Cas.cells szC
 | 0 => reads_zero
 | n + 1 => reads_map (reads_rec3 bulkOk Tryz.underlying77 c77 c1 (fun _ => rfl) (reads_str bulkOk Tryz.underlying9) c1 (fun _ => rfl) (rd_strs n) c33 (fun x => Pred.cells_length x) (rd_pred n)) (fun x => Cas.mk x.1 x.2.1 x.2.2.1) (fun x => by simp [Cas.cells]) (fun x => by have := len_sum x.2.1; simp only [szC]; omega)
theorem rd_cases (n : Nat) : ReadsAt enc Tryz.prog w Rows.uptoBulk n 73 (fun l : List Cas => [.lst (l.map Cas.cells)]) (fun l => (l.map szC).sum + 1) := reads_slice' bulkOk Tryz.underlying73 (by rw [c77]; decide) (fun x => by rw [c77]; exact Cas.cells_length x) rd_case n
theorem rd_meas : ∀ n, ReadsAt enc Tryz.prog w Rows.uptoBulk n 75 Meas.cells szM
 | 0 => reads_zero
 | n + 1 => reads_map (reads_rec5 bulkOk Tryz.underlying75 c75 c1 (fun _ => rfl) (reads_str bulkOk Tryz.underlying9) c1 (fun _ => rfl) (reads_str bulkOk Tryz.underlying9) c1 (fun _ => rfl) (reads_str bulkOk Tryz.underlying34) c1 (fun _ => rfl) (rd_cases n) c33 (fun x => Pred.cells_length x) (rd_pred n)) (fun x => Meas.mk x.1 x.2.1 x.2.2.1 x.2.2.2.1 x.2.2.2.2.1) (fun x => by simp [Meas.cells]) (fun x => by simp only [szM]; omega)
theorem rd_meass (n : Nat) : ReadsAt enc Tryz.prog w Rows.uptoBulk n 25 (fun l : List Meas => [.lst (l.map Meas.cells)]) (fun l => (l.map szM).sum + 1) := reads_slice' bulkOk Tryz.underlying25 (by rw [c75]; decide) (fun x => by rw [c75]; exact Meas.cells_length x) rd_meas n
theorem rd_mod : ∀ n, ReadsAt enc Tryz.prog w Rows.uptoBulk n 29 Mod.cells szMod
 | 0 => reads_zero
 | n + 1 => reads_map (reads_rec6 bulkOk Tryz.underlying29 c29 c1 (fun _ => rfl) (rd_datas n) c1 (fun _ => rfl) (rd_any n) c1 (fun _ => rfl) (rd_any n) c1 (fun _ => rfl) (rd_meass n) c1 (fun _ => rfl) (rd_any n) c1 (fun _ => rfl) (rd_any n)) (fun x => Mod.mk x.1 x.2.1 x.2.2.1 x.2.2.2.1 x.2.2.2.2.1 x.2.2.2.2.2.1) (fun x => rfl) (fun x => by simp only [szMod]; omega)
theorem gk : Tryz.prog.globalNamed "liquidcheck/names.keywords" = some 0 := by kernel_rfl
theorem gkType : (Tryz.prog.globals[0]?).map (·.type) = some 231 := by kernel_rfl
theorem gkCells : Tryz.prog.cellsOf 231 = 42 := by kernel_rfl
theorem strCells : Tryz.prog.cellsOf 9 = 1 := by kernel_rfl
theorem kws_data : (Rows.laid_liquidcheck_names_keywords (H := Unit)) = strsData kws := by kernel_rfl
theorem kws_glob {r : List (String × DataW Unit)} (h : laidMet Tryz.prog (("liquidcheck/names.keywords", Rows.laid_liquidcheck_names_keywords) :: r) w) : RepCs w (liveS w) 0 0 (kws.map D.str) ∧ ∃ (vs : Array Value) (e : TypeId) (fr : Nat × Nat), w.heap[0]? = some (.cells vs e fr) ∧ vs.size = (kws.map D.str).length := strs_glob gk gkType Tryz.underlying231 Tryz.underlying9 strCells gkCells (ss := kws) (rest := r) (by rw [kws_data] at h; exact h)
theorem glob0 (hS : w.ShapedOpen Tryz.prog) (h : laidMet Tryz.prog [("liquidcheck/names.keywords", Rows.laid_liquidcheck_names_keywords)] w) : GlobOk Tryz.prog G0 w (liveS w) := by
 have hk := kws_glob h
 have key : ∀ g cs, G0 g = some cs → RepCs w (liveS w) g 0 cs ∧ ∃ (vs : Array Value) (e : TypeId) (fr : Nat × Nat), w.heap[g]? = some (.cells vs e fr) ∧ vs.size = cs.length := by
  intro g cs hg
  unfold G0 at hg
  by_cases h0 : g = 0
  ·subst h0
   rw [if_pos rfl] at hg
   obtain rfl := Option.some.inj hg
   exact hk
  ·rw [if_neg h0] at hg; cases hg
 exact ⟨fun g cs hg => (key g cs hg).1, globals_le hS, fun g cs _ hg _ => (key g cs hg).2⟩
def G1 : Nat → Option (List D) := fun g => if g = 0 then some (kws.map .str) else if g = 1 then some (Lib.pow10Tab.map (D.int .u64)) else none
theorem pow_named : Tryz.prog.globalNamed "internal/strconv.uint64pow10" = some 1 := by kernel_rfl
theorem pow_data : (Rows.laid_internal_strconv_uint64pow10 (H := Unit)) = Lib.tabData .u64 Lib.pow10Tab := by kernel_rfl
theorem glob1 (hS : w.ShapedOpen Tryz.prog) (h : laidMet Tryz.prog [("math/bits.deBruijn32tab", Rows.laid_math_bits_deBruijn32tab), ("math/bits.deBruijn64tab", Rows.laid_math_bits_deBruijn64tab), ("internal/strconv.uint64pow10", Rows.laid_internal_strconv_uint64pow10), ("liquidcheck/names.keywords", Rows.laid_liquidcheck_names_keywords)] w) : GlobOk Tryz.prog G1 w (liveS w) := by
 have h2 := laidMet_tail (laidMet_tail h)
 have hk := kws_glob (laidMet_tail h2)
 rw [pow_data] at h2
 have ht := tab_glob pow_named (Lib.tabIs_of_head pow_named (by kernel_rfl) Tryz.underlying245 Tryz.underlying227 (by kernel_rfl) (by kernel_rfl) h2)
 have key : ∀ g cs, G1 g = some cs → RepCs w (liveS w) g 0 cs ∧ ∃ (vs : Array Value) (e : TypeId) (fr : Nat × Nat), w.heap[g]? = some (.cells vs e fr) ∧ vs.size = cs.length := by
  intro g cs hg
  unfold G1 at hg
  by_cases h0 : g = 0
  ·subst h0
   rw [if_pos rfl] at hg
   obtain rfl := Option.some.inj hg
   exact hk
  ·rw [if_neg h0] at hg
   by_cases h1 : g = 1
   ·subst h1
    rw [if_pos rfl] at hg
    obtain rfl := Option.some.inj hg
    exact ht
   ·rw [if_neg h1] at hg; cases hg
 exact ⟨fun g cs hg => (key g cs hg).1, globals_le hS, fun g cs _ hg _ => (key g cs hg).2⟩
theorem law34G : Law34 (X G1) := law34 G1 rfl fun n hn => itoa_of pow_named (of_decide_eq_true (by kernel_rfl)) ⟨Tryz.f125, Tryz.func125, by kernel_rfl, by kernel_rfl⟩ rfl n hn
theorem upto_mem : ∀ {ds : List (DataW H)} {d : DataW H}, Rows.uptoBulkAll ds ≤ 1048576 → d ∈ ds → Rows.uptoBulk d ≤ 1048576
 | [], _, _, h => by cases h
 | x :: ds, d, hs, h => by
  rw [Rows.uptoBulkAll] at hs
  rcases List.mem_cons.1 h with rfl | h
  ·omega
  ·exact upto_mem (by omega) h
theorem small_cnt {ds : List (DataW H)} {p : Pred} {d : DataW H} (h : Pred.sz p ≤ Rows.uptoBulk d) (hs : Rows.uptoSmall H ds = true) (hd : d ∈ ds) : p.cnt < 2 ^ 62 := by
 have h1 := Pred.cnt_sz p
 have h2 := upto_mem (of_decide_eq_true hs) hd
 omega
theorem small_big {ds : List (DataW H)} {p : Pred} {d : DataW H} (h : Pred.sz p ≤ Rows.uptoBulk d) (hs : Rows.uptoSmall H ds = true) (hd : d ∈ ds) : p.cnt ≤ 1048576 := by
 have h1 := Pred.cnt_sz p
 have h2 := upto_mem (of_decide_eq_true hs) hd
 omega
theorem sum_mem {α : Type} (f : α → Nat) : ∀ {l : List α} {x : α}, x ∈ l → f x ≤ (l.map f).sum
 | a :: l, x, h => by
  rw [List.map_cons, List.sum_cons]
  rcases List.mem_cons.1 h with rfl | h
  ·omega
  ·have := sum_mem f h; omega
theorem small_each {ds : List (DataW H)} {l : List Pred} {d : DataW H} (h : (l.map Pred.sz).sum + 1 ≤ Rows.uptoBulk d) (hs : Rows.uptoSmall H ds = true) (hd : d ∈ ds) : ∀ p ∈ l, p.cnt ≤ 1048576 := by
 intro p hp
 have h1 := Pred.cnt_sz p
 have h2 := upto_mem (of_decide_eq_true hs) hd
 have h3 := sum_mem Pred.sz hp
 omega
theorem each_tame {ds : List (DataW H)} {l : List Pred} {d : DataW H} (h : (l.map Pred.sz).sum + 1 ≤ Rows.uptoBulk d) (hs : Rows.uptoSmall H ds = true) (hd : d ∈ ds) : ∀ p ∈ l, Tame p := fun p hp => tame_of_cnt _ (small_each h hs hd p hp)
theorem len_sz : ∀ l : List Pred, l.length ≤ (l.map Pred.sz).sum
 | [] => Nat.le_refl _
 | p :: l => by
  have := len_sz l
  have h1 : 1 ≤ p.sz := by cases p; unfold Pred.sz; omega
  simp only [List.length_cons, List.map_cons, List.sum_cons]; omega
theorem small_len {ds : List (DataW H)} {l : List Pred} {d : DataW H} (h : (l.map Pred.sz).sum + 1 ≤ Rows.uptoBulk d) (hs : Rows.uptoSmall H ds = true) (hd : d ∈ ds) : l.length ≤ 1048576 := by
 have := len_sz l
 have := upto_mem (of_decide_eq_true hs) hd
 omega
theorem mod_big {ds : List (DataW H)} {m : Mod} {d : DataW H} (h : szMod m ≤ Rows.uptoBulk d) (hs : Rows.uptoSmall H ds = true) (hd : d ∈ ds) : MBig m := by
 have h2 := upto_mem (of_decide_eq_true hs) hd
 have h6 : szMod m = (m.meas.map szM).sum := rfl
 have h5 : ∀ x : Meas, szM x = (x.cases.map szC).sum + x.inv.sz + 1 := fun _ => rfl
 refine ⟨fun x hx c hc => ?_, fun x hx => ?_, ?_⟩
 ·have h1 := Pred.cnt_sz c.body
  have h3 := sum_mem szM hx
  have h4 := sum_mem szC hc
  have h7 : szC c = c.body.sz + c.names.length + 1 := rfl
  have h8 := h5 x
  omega
 ·have h1 := Pred.cnt_sz x.inv
  have h3 := sum_mem szM hx
  have h8 := h5 x
  omega
 ·have h9 : ∀ l : List Meas, l.length ≤ (l.map szM).sum := fun l => by
    induction l with
    | nil => exact Nat.le_refl _
    | cons a l ih => have h8 := h5 a; simp only [List.length_cons, List.map_cons, List.sum_cons]; omega
  have := h9 m.meas
  omega
theorem va_small {ds : List (DataW H)} {x : Va} {d : DataW H} (h : x.cnt ≤ Rows.uptoBulk d) (hs : Rows.uptoSmall H ds = true) (hd : d ∈ ds) : x.cnt ≤ 1048576 := Nat.le_trans h (upto_mem (of_decide_eq_true hs) hd)
theorem fld_tame {ds : List (DataW H)} {c : FldT} {d : DataW H} (h : szF c ≤ Rows.uptoBulk d) (hs : Rows.uptoSmall H ds = true) (hd : d ∈ ds) : (∀ t ∈ c.fields, Tame t) ∧ Tame c.value := by
 have h2 := upto_mem (of_decide_eq_true hs) hd
 have h3 : szF c = (c.fields.map Pred.sz).sum + 1 + c.value.sz := rfl
 have h6 := Pred.cnt_sz c.value
 refine ⟨fun t ht => tame_of_cnt _ ?_, tame_of_cnt _ (by omega)⟩
 have h4 := Pred.cnt_sz t
 have h5 := sum_mem Pred.sz ht
 omega
theorem own : ownKnob Tryz.prog.godebug = none := by kernel_rfl
theorem laidOut : laidOutB Tryz.prog = true := by kernel_rfl
def valsOf : List (DataW Unit) → List Value
 | [] => []
 | .lit (.string s) :: r => .string ⟨s.toArray⟩ :: valsOf r
 | .lit (.int k n) :: r => .int k n :: valsOf r
 | _ :: r => valsOf r
def cellsOfD : DataW Unit → List Value
 | .agg l => valsOf l
 | _ => []
def layAll : Array Obj → List (Nat × DataW Unit) → Array Obj
 | h, [] => h
 | h, (g, d) :: r => layAll (h.modify g fun
   | .cells _ t frozen => .cells (cellsOfD d).toArray t frozen
   | o => o) r
noncomputable def laidWorld (os : Os) : World :=
 { World.holding Tryz.prog os ⟨#[], #[], []⟩ with heap := layAll (World.holding Tryz.prog os ⟨#[], #[], []⟩).heap [(0, Rows.laid_liquidcheck_names_keywords), (1, Rows.laid_internal_strconv_uint64pow10), (2, Rows.laid_math_bits_deBruijn32tab), (3, Rows.laid_math_bits_deBruijn64tab)] }
end Go.Abs.Seat
end

/-
  THE DOOR: arguments that a statement reads as data are data of the abstract machine; the functions here are those of the program.
-/
import Derived.OpenShut
import Derived.Deep.DeepHandedRow
import Derived.Lib.LaidTab
import Derived.Carry
import Derived.ChangeCalls
import Derived.KernelRfl
import Derived.Test.YtmlihiihcbmaoaaGreatDoorProg
import Derived.Shelf.Lays2
import Derived.Shelf.Slices.Clone
import Derived.Shelf.LaysM
import Derived.Shelf.Strconv.Itoa3
import Derived.Lib.AppendIntMem
import Derived.Test.YtmlihiihcbmaoaaGreatDoorCards
import Derived.Test.YtmlihiihcbmaoaaGreatDoorTie
import Derived.WalkKit
import Derived.ProofKit
import Derived.Test.YtmlihiihcbmaoaaGreatDoorCon2
set_option linter.unusedSimpArgs false
set_option linter.unusedVariables false
set_option linter.unusedSectionVars false
set_option maxRecDepth 100000
section
namespace Go.Abs
open Go.RowKit
variable {H : Type} {enc : TypeId × Value → H} {P : Program} {w : World}
def liveS (w : World) : Safe := fun b o => ∃ v, w.cell? ⟨b, o, none⟩ = some v
structure BulkOk (bulk : DataW H → Nat) (all : List (DataW H) → Nat) : Prop where
 one : ∀ d, 1 ≤ bulk d
 str : ∀ s, s.length + 1 ≤ bulk (.lit (.string s))
 slice : ∀ a b, all a + 1 ≤ bulk (.slice a b)
 agg : ∀ a, all a + 1 ≤ bulk (.agg a)
 cons : ∀ d r, bulk d + all r ≤ all (d :: r)
variable {bulk : DataW H → Nat} {all : List (DataW H) → Nat}
def ReadsAt (enc : TypeId × Value → H) (P : Program) (w : World) (bulk : DataW H → Nat) (n : Nat) (t : TypeId) {α : Type} (f : α → List D) (sz : α → Nat) : Prop :=
 ∀ cs d ps, DataW.trod enc P w 0 (fun _ => true) true n t cs = some (d, ps) → ∃ x : α, RepL w (liveS w) (f x) cs ∧ sz x ≤ bulk d
theorem zjc {n : Nat} {t : TypeId} {α β : Type} {f : α → List D} {sz : α → Nat} {g : β → List D} {sz' : β → Nat} (h : ReadsAt enc P w bulk n t f sz) (φ : α → β) (hf : ∀ x, g (φ x) = f x) (hs : ∀ x, sz' (φ x) ≤ sz x) : ReadsAt enc P w bulk n t g sz' := fun cs d ps hr => by
 obtain ⟨x, h1, h2⟩ := h cs d ps hr
 exact ⟨φ x, by rw [hf]; exact h1, Nat.le_trans (hs x) h2⟩
theorem zJg (hb : BulkOk bulk all) {k : IntKind} {n : Nat} {t : TypeId} (ht : P.underlying t = some (.int k)) : ReadsAt enc P w bulk n t (fun x : Int => [.int k x]) (fun _ => 1) := by
 intro cs d ps h
 cases n with
 | zero => cases h
 | succ n =>
  unfold DataW.trod at h
  rw [ht] at h
  split at h <;> (try (cases h; done)) <;> rename_i h1 <;> cases h1
  rename_i k' m
  split at h
  ·rename_i hk
   obtain ⟨rfl, _⟩ := hk
   exact ⟨m, ⟨_, _, rfl, rfl, rfl⟩, hb.one _⟩
  ·cases h
theorem zxM (hb : BulkOk bulk all) {n : Nat} {t : TypeId} (ht : P.underlying t = some .string) : ReadsAt enc P w bulk n t (fun x : List UInt8 => [.str x]) (fun x => x.length + 1) := by
 intro cs d ps h
 cases n with
 | zero => cases h
 | succ n =>
  unfold DataW.trod at h
  rw [ht] at h
  split at h <;> (try (cases h; done)) <;> rename_i h1 <;> cases h1
  rename_i s
  split at h
  ·rename_i hk
   cases h
   exact ⟨s.data.toList, ⟨_, _, rfl, ⟨s, rfl, rfl, by simpa [maxLen] using hk⟩, rfl⟩, hb.str _⟩
  ·cases h
theorem mapM_reads {α : Type} {f : α → List D} {sz : α → Nat} (hb : BulkOk bulk all) {n : Nat} {e : TypeId} (he : ReadsAt enc P w bulk n e f sz) (g : Nat → Option (List Value)) :
  ∀ (is : List Nat) {xs : List (DataW H × List MemPlace)}, (is.mapM fun i => (g i).bind (DataW.trod enc P w 0 (fun _ => true) true n e)) = some xs →
   ∃ l : List α, l.length = is.length ∧ (∀ k (h : k < is.length), ∃ cs, g is[k] = some cs ∧ ∃ (h' : k < l.length), RepL w (liveS w) (f l[k]) cs) ∧ (l.map sz).sum ≤ all (xs.map (·.1))
 | [], xs, h => by simp at h; subst h; exact ⟨[], rfl, by simp, by simp⟩
 | i :: is, xs, h => by
  simp only [List.mapM_cons, Option.bind_eq_bind, Option.bind_eq_some_iff, Option.pure_def, Option.some.injEq] at h
  obtain ⟨⟨d, ps⟩, ⟨cs, hg, ht⟩, xs', hxs, rfl⟩ := h
  obtain ⟨x, hx, hsz⟩ := he cs d ps ht
  obtain ⟨l, hl, hl2, hl3⟩ := mapM_reads hb he g is hxs
  refine ⟨x :: l, by simp [hl], ?_, ?_⟩
  ·intro k hk
   cases k with
   | zero => exact ⟨cs, hg, by simp, hx⟩
   | succ k =>
    obtain ⟨cs', h1, h2, h3⟩ := hl2 k (by simpa using hk)
    exact ⟨cs', h1, by simpa using h2, h3⟩
  ·simp only [mC, List.sum_cons]
   exact Nat.le_trans (Nat.add_le_add hsz hl3) (hb.cons _ _)
theorem zXK {w : World} {a : Addr} {n : Nat} {cs : List Value} (h : w.cells? 0 a n = some cs) : cs.length = n ∧ ∀ j, j < n → ∃ v, cs[j]? = some v ∧ w.cell? (a.add j) = some v := by
 unfold World.cells? at h
 rw [if_pos (Nat.zero_le _)] at h
 have key : ∀ (is : List Nat) (cs : List Value), (is.mapM fun i => w.cell? (a.add i)) = some cs → cs.length = is.length ∧ ∀ k (hk : k < is.length), ∃ v, cs[k]? = some v ∧ w.cell? (a.add is[k]) = some v := by
  intro is
  induction is with
  | nil => intro cs h; simp at h; subst h; simp
  | cons i is ih =>
   intro cs h
   simp only [List.mapM_cons, Option.bind_eq_bind, Option.bind_eq_some_iff, Option.pure_def, Option.some.injEq] at h
   obtain ⟨v, hv, cs', hcs, rfl⟩ := h
   obtain ⟨h1, h2⟩ := ih cs' hcs
   refine ⟨by simp [h1], fun k hk => ?_⟩
   cases k with
   | zero => exact ⟨v, rfl, hv⟩
   | succ k => simpa using h2 k (by simpa using hk)
 obtain ⟨h1, h2⟩ := key _ _ h
 refine ⟨by simpa using h1, fun j hj => ?_⟩
 obtain ⟨v, e1, e2⟩ := h2 j (by simpa using hj)
 exact ⟨v, e1, by simpa using e2⟩
theorem zXe {w : World} {a : Addr} {v : Value} (h : w.cell? a = some v) : a.spot = none := by
 unfold World.cell? at h
 split at h
 ·split at h
  ·cases h
  ·rename_i hs; cases hh : a.spot with
   | none => rfl
   | some x => rw [hh] at hs; simp at hs
 ·cases h
theorem yyo {a : Addr} (h : a.spot = none) (n : Nat) : a.add n = ⟨a.block, a.off + n, none⟩ := by
 obtain ⟨b, o, sp⟩ := a
 simp only at h
 subst h
 exact zys b o n
theorem zWF (hb : BulkOk bulk all) {α : Type} {f : α → List D} {sz : α → Nat} {n : Nat} {t e : TypeId} (ht : P.underlying t = some (.slice e)) (hk : P.cellsOf e ≠ 0) (hf : ∀ x, (f x).length = P.cellsOf e) (he : ReadsAt enc P w bulk n e f sz) :
  ReadsAt enc P w bulk (n + 1) t (fun l : List α => [.lst (l.map f)]) (fun l => (l.map sz).sum + 1) := by
 intro cs d ps h
 unfold DataW.trod at h
 rw [ht] at h
 split at h <;> (try (cases h; done)) <;> rename_i h1 <;> cases h1
 ·cases h
  exact ⟨[], ⟨_, _, rfl, ⟨none, 0, rfl, Nat.le_refl _, by omega, fun _ => rfl, fun a ha => by cases ha⟩, rfl⟩, hb.one _⟩
 ·rename_i a len cap
  simp only at h
  split at h
  ·rename_i hc
   obtain ⟨_, hlc, hcm⟩ := hc
   simp only [Option.bind_eq_some_iff, Option.map_eq_some_iff] at h
   obtain ⟨xs, hxs, rest, hrest, h⟩ := h
   cases h
   simp only [if_true] at hrest
   obtain ⟨l, hl, hl2, hl3⟩ := mapM_reads hb he (fun i => w.cells? 0 (a.add (i * P.cellsOf e)) (P.cellsOf e)) (List.range len) hxs
   have hll : l.length = len := by simpa using hl
   have hspot : cap ≠ 0 → a.spot = none := by
    intro hc0
    by_cases hl0 : len = 0
    ·subst hl0
     have hlt : 0 < cap - 0 := by omega
     obtain ⟨l', hl', hl2', _⟩ := mapM_reads hb he (fun j => w.cells? 0 (a.add ((0 + j) * P.cellsOf e)) (P.cellsOf e)) (List.range (cap - 0)) hrest
     obtain ⟨cs, hcs, _⟩ := hl2' 0 (by simpa using hlt)
     obtain ⟨_, hg⟩ := zXK hcs
     obtain ⟨v, _, hv⟩ := hg 0 (by omega)
     have := zXe hv
     simpa [Addr.add] using this
    ·obtain ⟨cs, hcs, _⟩ := hl2 0 (by simp; omega)
     obtain ⟨_, hg⟩ := zXK hcs
     obtain ⟨v, _, hv⟩ := hg 0 (by omega)
     have := zXe hv
     simpa [Addr.add] using this
   refine ⟨l, ⟨_, _, rfl, ⟨some a, cap, by rw [lM, hll], by rw [lM, hll]; exact hlc, by simpa [maxLen] using hcm, (fun h => by cases h), ?_⟩, rfl⟩, Nat.le_trans (Nat.succ_le_succ hl3) (hb.slice _ _)⟩
   intro a' ha'
   cases ha'
   refine ⟨hspot, ⟨P.cellsOf e, fun x hx => by obtain ⟨y, _, rfl⟩ := List.mem_map.1 hx; exact hf y⟩, ?_⟩
   have key : ∀ (r : List α) (i : Nat), (∀ k (hk : k < r.length), ∃ (h' : i + k < l.length), l[i + k] = r[k]) → RepEs w (liveS w) a.block (a.off + i * P.cellsOf e) (r.map f) := by
    intro r
    induction r with
    | nil => intro i _; trivial
    | cons x r ih =>
     intro i hi
     obtain ⟨h', e0⟩ := hi 0 (by simp)
     simp only [Nat.add_zero, List.getElem_cons_zero] at h' e0
     obtain ⟨cs, hcs, h2, hrep⟩ := hl2 i (by simpa [hll] using h')
     simp only [List.getElem_range] at hcs
     obtain ⟨hcl, hg⟩ := zXK hcs
     have hsp := hspot (by omega)
     refine ⟨?_, ?_⟩
     ·rw [← e0]
      refine RepCs.zwX hrep fun j v hj => ?_
      have hj' : j < P.cellsOf e := by rw [← hcl]; exact (List.getElem?_eq_some_iff.1 hj).1
      obtain ⟨v', e1, e2⟩ := hg j hj'
      rw [hj] at e1
      cases e1
      rw [yyo hsp, zys] at e2
      exact ⟨e2, v, e2⟩
     ·have := ih (i + 1) (fun k hk => by
        obtain ⟨g1, g2⟩ := hi (k + 1) (by simpa using hk)
        refine ⟨by omega, ?_⟩
        have e3 : i + 1 + k = i + (k + 1) := by omega
        simp only [e3]
        simpa using g2)
      rw [hf x, show a.off + i * P.cellsOf e + P.cellsOf e = a.off + (i + 1) * P.cellsOf e by rw [Nat.add_mul]; omega]
      exact this
   have := key l 0 (fun k hk => ⟨by omega, by simp⟩)
   simpa using this
  ·cases h
def ReadsF (enc : TypeId × Value → H) (P : Program) (w : World) (bulk : DataW H → Nat) (all : List (DataW H) → Nat) (n : Nat) (fs : List Field) (off : Nat) {α : Type} (f : α → List D) (sz : α → Nat) : Prop :=
 ∀ (cs : List Value) (xs : List (DataW H × List MemPlace)), (fs.mapM fun fd => DataW.trod enc P w 0 (fun _ => true) true n fd.type ((cs.drop fd.offset).take (P.cellsOf fd.type))) = some xs →
  ∃ x : α, RepL w (liveS w) (f x) ((cs.drop off).take (f x).length) ∧ sz x ≤ all (xs.map (·.1))
theorem zWE {n off : Nat} : ReadsF enc P w bulk all n [] off (fun _ : Unit => []) (fun _ => 0) := by
 intro cs xs h
 exact ⟨(), by simp [RepL], Nat.zero_le _⟩
theorem RepL.yzg {S : Safe} : ∀ {a b : List D} {l : List Value} , RepL w S a (l.take a.length) → RepL w S b ((l.drop a.length).take b.length) → RepL w S (a ++ b) (l.take (a ++ b).length)
 | [], b, l, _, h2 => by simpa using h2
 | x :: a, b, l, ⟨v, r, h, h1, h1'⟩, h2 => by
  cases l with
  | nil => simp at h
  | cons y l =>
   simp only [lC, List.take_succ_cons, List.cons.injEq] at h
   obtain ⟨rfl, rfl⟩ := h
   simp only [List.cons_append, lC, List.take_succ_cons]
   exact ⟨_, _, rfl, h1, RepL.yzg h1' (by simpa using h2)⟩
theorem zxB (hb : BulkOk bulk all) {n off k : Nat} {fd : Field} {fs : List Field} {α β : Type} {f : α → List D} {sz : α → Nat} {g : β → List D} {sz' : β → Nat} (ho : fd.offset = off) (hk : P.cellsOf fd.type = k) (hf : ∀ x, (f x).length = k)
  (h1 : ReadsAt enc P w bulk n fd.type f sz) (h2 : ReadsF enc P w bulk all n fs (off + k) g sz') : ReadsF enc P w bulk all n (fd :: fs) off (fun x : α × β => f x.1 ++ g x.2) (fun x => sz x.1 + sz' x.2) := by
 intro cs xs h
 simp only [List.mapM_cons, Option.bind_eq_bind, Option.bind_eq_some_iff, Option.pure_def, Option.some.injEq] at h
 obtain ⟨⟨d, ps⟩, hd, xs', hxs, rfl⟩ := h
 obtain ⟨x, hx, hxs1⟩ := h1 _ d ps hd
 obtain ⟨y, hy, hys⟩ := h2 cs xs' hxs
 refine ⟨(x, y), ?_, Nat.le_trans (Nat.add_le_add hxs1 hys) (by simpa using hb.cons _ _)⟩
 refine RepL.yzg ?_ ?_
 ·rw [hf x, ← hk, ← ho]; exact hx
 ·rw [hf x, List.drop_drop]
  exact hy
theorem zqq (hb : BulkOk bulk all) {n : Nat} {t : TypeId} {fs : Array Field} {α : Type} {f : α → List D} {sz : α → Nat} (ht : P.underlying t = some (.struct fs)) (hk : ∀ x, (f x).length = P.cellsOf t) (h : ReadsF enc P w bulk all n fs.toList 0 f sz) :
  ReadsAt enc P w bulk (n + 1) t f (fun x => sz x + 1) := by
 intro cs d ps hr
 unfold DataW.trod at hr
 simp only [ht] at hr
 split at hr
 ·rename_i hlen
  simp only [Option.map_eq_some_iff] at hr
  obtain ⟨xs, hxs, hr⟩ := hr
  cases hr
  obtain ⟨x, hx, hs⟩ := h cs xs hxs
  refine ⟨x, ?_, Nat.le_trans (Nat.succ_le_succ hs) (hb.agg _)⟩
  rw [List.drop_zero, hk x, ← hlen, List.take_length] at hx
  exact hx
 ·cases hr
end Go.Abs
end
section
namespace Go.Abs
open Go.RowKit Go.ChangeShapes
variable {H : Type} {enc : TypeId × Value → H} {P : Program} {w : World}
theorem yjg {f : Func} {s : ChangeSpec} {apart fresh handsOn again : Bool} {W W' : World} {args : Array Value} {ds gs : List (DataW H)} {before : List MemPlace} {tb : TypeId}
  (hW : DataW.Whole enc P f.params.toList s.vars apart W args.toList ds gs before) (hvars : s.vars = []) (hfn : ∀ l, l.length = f.params.size → (s.fn H l).results = [.lit (.bool true)] ∧ (s.fn H l).args = l ∧ (s.fn H l).vars = []) (hb : Below W.heap.size W W')
  (hl : laidOutB P = true) (hp : ∀ t ∈ f.params.toList, P.readableRec t = true ∧ t < P.types.size) (htb : P.underlying tb = some .bool) (hr : f.resultTypes = #[tb]) : s.post enc P f apart fresh handsOn again W args (.bool true) W' := by
 obtain ⟨p, q, hA, hV, hpq, hz, hn⟩ := id hW
 rw [hvars] at hV
 obtain ⟨rfl, rfl⟩ := trodVars_none hV
 have hlen : ds.length = f.params.size := by have := (trodAll_length hA).2; simpa using this
 obtain ⟨e1, e2, e3⟩ := hfn ds hlen
 have hlt : ∀ x ∈ before, x.block < W.heap.size := hW.lt
 rw [List.append_nil] at hpq
 subst hpq
 have hres : ∀ (b : Nat) (sp : Nat → Bool) (hd : Bool), DataW.TrodAll enc P W' b sp hd f.resultTypes.toList ((Value.bool true).resultList f.resultTypes.size) (s.fn H (ds ++ [])).results [] := by
  intro b sp hd
  rw [List.append_nil, e1, hr]
  exact trodAll_cons_mk (p := []) (p' := []) (shut_bool htb true) trodAll_mk0
 have hargs : ∀ sp : Nat → Bool, (∀ x ∈ before, sp x.block = true) → DataW.TrodAll enc P W' 0 sp true f.params.toList args.toList (s.fn H (ds ++ [])).args before := by
  intro sp hsp
  rw [List.append_nil, e2]
  have key : ∀ (ts : List TypeId) (vs : List Value) (ds : List (DataW H)) (ps : List MemPlace), (∀ t ∈ ts, P.readableRec t = true ∧ t < P.types.size) → (∀ x ∈ ps, x ∈ before) → DataW.TrodAll enc P W 0 (fun _ => true) true ts vs ds ps → DataW.TrodAll enc P W' 0 sp true ts vs ds ps := by
   intro ts
   induction ts with
   | nil => intro vs ds ps _ _ h; obtain ⟨rfl, rfl, rfl⟩ := trodAll_nil h; exact trodAll_mk0
   | cons t ts ih =>
    intro vs ds ps ht hin h
    obtain ⟨v, vs', d, ds', p1, p2, rfl, rfl, rfl, h1, h2⟩ := trodAll_cons h
    exact trodAll_cons_mk (WideElems.Trod_stays hl (ht t (by simp)).1 (ht t (by simp)).2 h1 (fun x hx => hb.same (hlt x (hin x (List.mem_append_left _ hx)))) (fun x hx => hsp x (hin x (List.mem_append_left _ hx))))
     (ih vs' ds' p2 (fun t' ht' => ht t' (by simp [ht'])) (fun x hx => hin x (List.mem_append_right _ hx)) h2)
  exact key _ _ _ _ hp (fun x hx => hx) hA
 have hold : ∀ x ∈ before, (fun b => decide (b < W.heap.size)) x.block = true := fun x hx => by simpa using hlt x hx
 have hv0 : ∀ sp : Nat → Bool, DataW.TrodVars enc P W' sp s.vars (s.fn H (ds ++ [])).vars [] := by
  intro sp; rw [hvars, List.append_nil, e3]; rfl
 refine ⟨ds, [], before, [], before, [], hW, hres _ _ _, hargs _ hold, hv0 _, World.keptBut_mono (fun x hx => ⟨hx, ?_⟩) (hb.frame (· ∈ before)), fun _ => ?_⟩
 ·simpa using hx
 ·refine ⟨ok_one hr rfl (okWide_bool_mk htb true), _, _, ([] ++ before) ++ [], ⟨[] ++ before, [], trodAll_append (hargs _ (fun _ _ => rfl)) (hres _ _ _), hv0 _, rfl, ?_, ?_⟩, ?_⟩
  ·intro b off hx
   have hx' : MemPlace.cell b off ∈ before := by simpa using hx
   have : W'.frozen? ⟨b, off, none⟩ = W.frozen? ⟨b, off, none⟩ := hb.frozen (p := ⟨b, off, none⟩) (hlt _ hx')
   rw [this]
   exact hz b off hx'
  ·intro ha
   simpa using hn ha
  ·intro x hx _
   simpa using hx
def strsData {H : Type} (ss : List (List UInt8)) : DataW H := .agg (ss.map fun s => .lit (.string s))
theorem zXf {base : Nat} {sp : Nat → Bool} {held : Bool} {fuel : Nat} {t e : TypeId} {n : Nat} {cs : List Value} {ss : List (List UInt8)} {p : List MemPlace} {S : Safe}
  (ht : P.underlying t = some (.array n e)) (he : P.underlying e = some .string) (hce : P.cellsOf e = 1) (hct : P.cellsOf t = n)
  (h : DataW.trod enc P w base sp held fuel t cs = some (strsData ss, p)) : RepL w S (ss.map D.str) cs := by
 cases fuel with
 | zero => simp [DataW.trod] at h
 | succ fuel =>
  simp only [DataW.trod, ht, hce, hct, Nat.mul_one] at h
  split at h
  ·rename_i hl
   obtain ⟨xs, hm, hx⟩ := Option.map_eq_some_iff.1 h
   have hxs : xs.map (·.1) = ss.map fun s => (DataW.lit (.string s) : DataW H) := by
    have := congrArg Prod.fst hx
    simpa [strsData] using this
   have hxl : xs.length = n := by simpa using Lib.mapM_length hm
   have hsl : ss.length = n := by
    have := congrArg List.length hxs
    simp at this; omega
   have hcl : cs.length = n := hl
   have key : ∀ i (hi : i < n), ∃ (x : ByteArray), cs[i]? = some (.string x) ∧ x.data.toList = ss.getD i [] ∧ x.size ≤ 9223372036854775807 := by
    intro i hi
    obtain ⟨b, hb, hf⟩ := Lib.mapM_at hm i i (by simp [hi])
    have hc : (cs.drop i).take 1 = [cs[i]'(by omega)] := by
     rw [List.drop_eq_getElem_cons (by omega)]; rfl
    rw [hc] at hf
    have hbi : b.1 = DataW.lit (.string (ss.getD i [])) := by
     have h2 : (xs.map (·.1))[i]? = some b.1 := by simp [hb]
     rw [hxs] at h2
     rw [List.getElem?_map, List.getElem?_eq_getElem (by omega)] at h2
     simp only [Option.map_some, Option.some.injEq] at h2
     rw [← h2]
     simp [List.getD, List.getElem?_eq_getElem (show i < ss.length by omega)]
    cases fuel with
    | zero => simp [DataW.trod] at hf
    | succ fuel =>
     simp only [DataW.trod, he] at hf
     generalize hci : cs[i]'(by omega) = ci at hf
     cases ci <;> simp only [reduceCtorEq] at hf
     rename_i x
     split at hf
     ·rename_i hmax
      cases hf
      simp only [DataW.lit.injEq, Lit.string.injEq] at hbi
      exact ⟨x, by rw [List.getElem?_eq_getElem (by omega), hci], hbi, by simpa [maxLen] using hmax⟩
     ·cases hf
   clear h hm hx hxs hxl
   have fin : ∀ (ss : List (List UInt8)) (cs : List Value), ss.length = cs.length → (∀ i, i < ss.length → ∃ (x : ByteArray), cs[i]? = some (.string x) ∧ x.data.toList = ss.getD i [] ∧ x.size ≤ 9223372036854775807) → RepL w S (ss.map D.str) cs := by
    intro ss
    induction ss with
    | nil => intro cs h _; cases cs with | nil => rfl | cons _ _ => simp at h
    | cons s ss ih =>
     intro cs hl hk
     cases cs with
     | nil => simp at hl
     | cons c cs =>
      obtain ⟨x, h1, h2, h3⟩ := hk 0 (by simp)
      simp only [List.getElem?_cons_zero, Option.some.injEq] at h1
      subst h1
      exact ⟨_, _, rfl, ⟨x, rfl, by simpa using h2, h3⟩, ih cs (by simpa using hl) fun i hi => by simpa using hk (i + 1) (by simpa using hi)⟩
   exact fin ss cs (by omega) (fun i hi => key i (by omega))
  ·cases h
theorem zVO {name : String} {ss : List (List UInt8)} {rest : List (String × DataW Unit)} {g : Nat} {t e : TypeId} {n : Nat}
  (hg : P.globalNamed name = some g) (hty : (P.globals[g]?).map (·.type) = some t) (ht : P.underlying t = some (.array n e)) (he : P.underlying e = some .string) (hce : P.cellsOf e = 1) (hct : P.cellsOf t = n)
  (h : laidMet P ((name, strsData ss) :: rest) w) : RepCs w (liveS w) g 0 (ss.map D.str) := by
 obtain ⟨ps, ⟨g', t', cs, fuel, p, q, hg', ht', hvar, hd, _, _⟩, _⟩ := h
 obtain rfl := Option.some.inj (hg.symm.trans hg')
 obtain rfl := Option.some.inj (hty.symm.trans ht')
 have hr : RepL w (liveS w) (ss.map D.str) cs.toList := zXf ht he hce hct hd
 have hcell := World.var?_cell hg hvar
 refine RepCs.zwX hr fun j v hj => ?_
 have hj' : cs[j]? = some v := by simpa using hj
 have := hcell j
 rw [hj'] at this
 rw [zA]
 exact ⟨this, v, this⟩
theorem zJv {name : String} {g : Nat} {cs : Array Value} (hg : P.globalNamed name = some g) (h : w.var? P name = some cs) : ∃ (e : TypeId) (fr : Nat × Nat), w.heap[g]? = some (.cells cs e fr) := by
 simp only [World.var?, hg, Option.bind_some] at h
 split at h
 ·rename_i vs e fr hb; cases h; exact ⟨e, fr, hb⟩
 ·cases h
theorem yx4 {name : String} {ss : List (List UInt8)} {rest : List (String × DataW Unit)} {g : Nat} {t e : TypeId} {n : Nat}
  (hg : P.globalNamed name = some g) (hty : (P.globals[g]?).map (·.type) = some t) (ht : P.underlying t = some (.array n e)) (he : P.underlying e = some .string) (hce : P.cellsOf e = 1) (hct : P.cellsOf t = n)
  (h : laidMet P ((name, strsData ss) :: rest) w) : RepCs w (liveS w) g 0 (ss.map D.str) ∧ ∃ (vs : Array Value) (e : TypeId) (fr : Nat × Nat), w.heap[g]? = some (.cells vs e fr) ∧ vs.size = (ss.map D.str).length := by
 refine ⟨zVO hg hty ht he hce hct h, ?_⟩
 obtain ⟨ps, ⟨g', t', cs, fuel, p, q, hg', ht', hvar, hd, _, _⟩, _⟩ := h
 obtain rfl := Option.some.inj (hg.symm.trans hg')
 obtain rfl := Option.some.inj (hty.symm.trans ht')
 have hr : RepL w (liveS w) (ss.map D.str) cs.toList := zXf ht he hce hct hd
 obtain ⟨e', fr, hb⟩ := zJv hg hvar
 exact ⟨cs, e', fr, hb, by have := RepL.length hr; simpa using this⟩
theorem yks {name : String} {k : IntKind} {zs : List Int} {g : Nat} (hg : P.globalNamed name = some g) (h : Lib.TabIs P w name k zs) :
  RepCs w (liveS w) g 0 (zs.map (D.int k)) ∧ ∃ (vs : Array Value) (e : TypeId) (fr : Nat × Nat), w.heap[g]? = some (.cells vs e fr) ∧ vs.size = (zs.map (D.int k)).length := by
 obtain ⟨e, fr, hb⟩ := zJv hg h
 refine ⟨RepCs.zwX (l := zs.map fun z => Value.int k z) ?_ fun j v hj => ?_, _, e, fr, hb, by simp⟩
 ·clear h hb
  induction zs with
  | nil => rfl
  | cons z zs ih => exact ⟨_, _, rfl, rfl, ih⟩
 ·have hc : w.cell? ⟨g, 0 + j, none⟩ = some v := by
    rw [zA, zzk hb]
    simpa using hj
  exact ⟨hc, v, hc⟩
theorem zQx {S : Safe} {name : String} {k : IntKind} {zs : List Int} {g : Nat} (hg : P.globalNamed name = some g) (h : RepCs w S g 0 (zs.map (D.int k))) (hx : ∃ (vs : Array Value) (e : TypeId) (fr : Nat × Nat), w.heap[g]? = some (.cells vs e fr) ∧ vs.size = (zs.map (D.int k)).length) : Lib.TabIs P w name k zs := by
 obtain ⟨vs, e, fr, hb, hn⟩ := hx
 unfold Lib.TabIs
 simp only [World.var?, hg, Option.bind_some, hb, Option.some.injEq]
 obtain ⟨l, hl, hc⟩ := RepCs.values h
 have hl2 : l = zs.map fun z => Value.int k z := by
  clear hc hn h
  induction zs generalizing l with
  | nil => simpa [RepL] using hl
  | cons z zs ih =>
   obtain ⟨v, r, rfl, h1, h2⟩ := hl
   simp only [Rep] at h1
   subst h1
   rw [mC, ih r h2]
 subst hl2
 apply Array.ext
 ·simpa using hn
 ·intro i h1 h2
  simp only [List.size_toArray, lM] at h2
  have := (hc i (.int k zs[i]) (by simp [h2])).1
  rw [zA, zzk hb, Array.getElem?_eq_getElem h1] at this
  simpa using this
theorem zqh {x : String × DataW Unit} {r : List (String × DataW Unit)} (h : laidMet P (x :: r) w) : laidMet P r w := by
 obtain ⟨ps, hv, hnd, hrows⟩ := h
 obtain ⟨n, d⟩ := x
 obtain ⟨g, t, cs, fuel, p, q, _, _, _, _, hq, rfl⟩ := hv
 exact ⟨q, hq, List.Nodup.sublist (List.sublist_append_right _ _) hnd, fun b off hm => hrows b off (List.mem_append_right _ hm)⟩
theorem zKi (h : w.ShapedOpen P) : P.globals.size ≤ w.heap.size := by
 obtain ⟨_, h2⟩ := h
 obtain ⟨o, _, ho, _⟩ := h2 P.globals.size (Nat.le_refl _) (by simp [begin]; omega)
 exact Nat.le_of_lt (Array.getElem?_eq_some_iff.1 ho).1
theorem ykY {r : Reach} {b : Nat} {t : TypeId} {d : TypeDesc} {v : Value} (ht : P.underlying t = some d) (hd : d = .bool ∨ d = .string ∨ (∃ k, d = .int k) ∨ ∃ e, d = .slice e) (hval : Value.okWide P w r b t v) : v.cells.toList = [v] := by
 unfold Value.okWide at hval
 rw [ht] at hval
 rcases hd with rfl | rfl | ⟨k, rfl⟩ | ⟨e, rfl⟩ <;>
  (simp only [Cell.okWide, ht, Cell.ok] at hval
   cases v <;> simp_all [Value.cells])
theorem ykX {r : Reach} {b : Nat} {t : TypeId} {fs : Array Field} {v : Value} (ht : P.underlying t = some (.struct fs)) (hval : Value.okWide P w r b t v) : ∃ cs, v = .agg cs ∧ v.cells = cs := by
 unfold Value.okWide at hval
 rw [ht] at hval
 obtain ⟨cs, rfl, _⟩ := hval
 exact ⟨cs, rfl, rfl⟩
end Go.Abs
end
section
namespace Go.Abs
open Go.RowKit Go.ChangeShapes
variable {H : Type} {enc : TypeId × Value → H} {P : Program} {w : World} {bulk : DataW H → Nat} {all : List (DataW H) → Nat}
theorem zx6 {t : TypeId} {α : Type} {f : α → List D} {sz : α → Nat} : ReadsAt enc P w bulk 0 t f sz := fun cs d ps h => by cases h
theorem reads_slice' (hb : BulkOk bulk all) {α : Type} {f : α → List D} {sz : α → Nat} {t e : TypeId} (ht : P.underlying t = some (.slice e)) (hk : P.cellsOf e ≠ 0) (hf : ∀ x, (f x).length = P.cellsOf e) (he : ∀ n, ReadsAt enc P w bulk n e f sz) :
  ∀ n, ReadsAt enc P w bulk n t (fun l : List α => [.lst (l.map f)]) (fun l => (l.map sz).sum + 1)
 | 0 => zx6
 | n + 1 => zWF hb ht hk hf (he n)
theorem yz2 (hb : BulkOk bulk all) {t s to tn ti : TypeId} {n0 n1 n2 n3 g0 g1 g2 g3 p0 p1 p2 p3 : String} {b0 b1 b2 b3 : Nat} {e0 e1 e2 e3 : Bool}
  (ht : P.underlying t = some (.struct #[⟨n0, to, 0, e0, g0, p0, b0⟩, ⟨n1, tn, 1, e1, g1, p1, b1⟩, ⟨n2, ti, 2, e2, g2, p2, b2⟩, ⟨n3, s, 3, e3, g3, p3, b3⟩]))
  (ho : P.underlying to = some (.int .i64)) (hn : P.underlying tn = some .string) (hi : P.underlying ti = some (.int .i64)) (hs : P.underlying s = some (.slice t))
  (ct : P.cellsOf t = 4) (co : P.cellsOf to = 1) (cn : P.cellsOf tn = 1) (ci : P.cellsOf ti = 1) (cs : P.cellsOf s = 1) : ∀ n, ReadsAt enc P w bulk n t Pred.cells Pred.sz := by
 intro n
 induction n using Nat.strongRecOn with | _ n ih =>
 cases n with
 | zero => exact zx6
 | succ n =>
  have hk : ReadsAt enc P w bulk n s (fun l : List Pred => [.lst (l.map Pred.cells)]) (fun l => (l.map Pred.sz).sum + 1) := by
   cases n with
   | zero => exact zx6
   | succ m => exact zWF hb hs (by rw [ct]; decide) (fun x => by rw [ct]; exact Pred.zzu x) (ih m (by omega))
  have hF := zxB hb (n := n) (fd := ⟨n0, to, 0, e0, g0, p0, b0⟩) (off := 0) rfl co (fun _ => rfl) (zJg hb ho) (zxB hb (fd := ⟨n1, tn, 1, e1, g1, p1, b1⟩) rfl cn (fun _ => rfl) (zxM hb hn) (zxB hb (fd := ⟨n2, ti, 2, e2, g2, p2, b2⟩) rfl ci (fun _ => rfl) (zJg hb hi) (zxB hb (fd := ⟨n3, s, 3, e3, g3, p3, b3⟩) rfl cs (fun _ => rfl) hk zWE)))
  have h := zqq hb ht (fun x => by rw [ct]; rfl) hF
  refine zjc h (fun x => Pred.mk x.1 x.2.1 x.2.2.1 x.2.2.2.1) (fun x => ?_) (fun x => ?_)
  ·rw [Pred.zzd]; rfl
  ·show Pred.sz (Pred.mk x.1 x.2.1 x.2.2.1 x.2.2.2.1) ≤ _
   simp only [Pred.sz, Pred.yjl]
   exact Nat.le_refl _
theorem ReadsF.two {n off : Nat} {fs : List Field} {α β : Type} {f : α → List D} {sz : α → Nat} {g : β → List D} {sz' : β → Nat} (h : ReadsF enc P w bulk all n fs off f sz) (φ : α → β) (hf : ∀ x, g (φ x) = f x) (hs : ∀ x, sz' (φ x) ≤ sz x) : ReadsF enc P w bulk all n fs off g sz' := fun cs xs hr => by
 obtain ⟨x, h1, h2⟩ := h cs xs hr
 exact ⟨φ x, by rw [hf]; exact h1, Nat.le_trans (hs x) h2⟩
theorem yvI {G : Nat → Option (List D)} {f : FuncId} {args : Array Value} {cargs : List CV} (hev : Ev P G f cargs (.one (.bool true))) (hg : GlobOk P G w (liveS w)) (ha : RepCL w (liveS w) cargs args.toList) :
  Calls P f args w fun e w' => e = .returned (.bool true) ∧ Below w.heap.size w w' := by
 refine (hev.2 w (liveS w) args (fun b o h => h) hg ha).mono fun e w' h => ?_
 obtain ⟨v, S', he, hr, hb, _⟩ := h
 have : v = .bool true := hr
 subst this
 exact ⟨he, hb⟩
theorem yvL {c : CV} {v : Value} {cs : List CV} {vs : List Value} (h : RepC w (liveS w) c v) (hs : RepCL w (liveS w) cs vs) : RepCL w (liveS w) (c :: cs) (v :: vs) := ⟨v, vs, rfl, h, hs⟩
theorem rep_one {α : Type} {r : Reach} {b n : Nat} {t : TypeId} {dsc : TypeDesc} {v : Value} {d : DataW H} {ps : List MemPlace} {f : α → D} {sz : α → Nat} (ht : P.underlying t = some dsc) (hd : dsc = .bool ∨ dsc = .string ∨ (∃ k, dsc = .int k) ∨ ∃ e, dsc = .slice e) (hval : Value.okWide P w r b t v)
  (hr : ReadsAt enc P w bulk n t (fun x => [f x]) sz) (h : DataW.trod enc P w 0 (fun _ => true) true n t v.cells.toList = some (d, ps)) : ∃ x : α, RepC w (liveS w) (.one (f x)) v ∧ sz x ≤ bulk d := by
 obtain ⟨x, h1, h2⟩ := hr _ _ _ h
 rw [ykY ht hd hval] at h1
 obtain ⟨v', r', e, h3, _⟩ := h1
 cases e
 exact ⟨x, h3, h2⟩
theorem rep_agg {α : Type} {r : Reach} {b n : Nat} {t : TypeId} {fs : Array Field} {v : Value} {d : DataW H} {ps : List MemPlace} {f : α → List D} {sz : α → Nat} (ht : P.underlying t = some (.struct fs)) (hval : Value.okWide P w r b t v)
  (hr : ReadsAt enc P w bulk n t f sz) (h : DataW.trod enc P w 0 (fun _ => true) true n t v.cells.toList = some (d, ps)) : ∃ x : α, RepC w (liveS w) (.agg (f x)) v ∧ sz x ≤ bulk d := by
 obtain ⟨x, h1, h2⟩ := hr _ _ _ h
 obtain ⟨cs, rfl, hc⟩ := ykX ht hval
 rw [hc] at h1
 exact ⟨x, ⟨cs, rfl, h1⟩, h2⟩
end Go.Abs
end
section
namespace Go.Abs
open Go.RowKit Go.ChangeShapes
variable {H : Type} {enc : TypeId × Value → H} {P : Program} {w : World} {bulk : DataW H → Nat} {all : List (DataW H) → Nat}
theorem zKB (hb : BulkOk bulk all) {α0 α1 : Type} {f0 : α0 → List D} {s0 : α0 → Nat} {f1 : α1 → List D} {s1 : α1 → Nat} {n : Nat} {t t0 t1 : TypeId} {k0 o0 b0 k1 o1 b1 : Nat} {n0 g0 p0 n1 g1 p1 : String} {e0 e1 : Bool}
  (ht : P.underlying t = some (.struct #[⟨n0, t0, o0, e0, g0, p0, b0⟩, ⟨n1, t1, o1, e1, g1, p1, b1⟩]))
  (ct : P.cellsOf t = k0 + k1) (c0 : P.cellsOf t0 = k0) (l0 : ∀ x, (f0 x).length = k0) (h0 : ReadsAt enc P w bulk n t0 f0 s0) (c1 : P.cellsOf t1 = k1) (l1 : ∀ x, (f1 x).length = k1) (h1 : ReadsAt enc P w bulk n t1 f1 s1) (q0 : o0 = 0 := by rfl) (q1 : o1 = 0+k0 := by rfl) :
  ReadsAt enc P w bulk (n + 1) t (fun x : α0 × α1 × Unit => f0 (x.1) ++ (f1 (x.2.1) ++ [])) (fun x => s0 (x.1) + (s1 (x.2.1) + 0) + 1) := by
 have hF := zxB (enc := enc) (w := w) hb (n := n) (fd := ⟨n0, t0, o0, e0, g0, p0, b0⟩) q0 c0 l0 h0 (zxB (enc := enc) (w := w) hb (n := n) (fd := ⟨n1, t1, o1, e1, g1, p1, b1⟩) q1 c1 l1 h1 (zWE (enc := enc) (P := P) (w := w) (bulk := bulk) (all := all) (n := n)))
 exact zqq hb ht (fun x => by rw [ct]; simp only [lA, lN, l0, l1]; omega) hF
theorem zKC (hb : BulkOk bulk all) {α0 α1 α2 : Type} {f0 : α0 → List D} {s0 : α0 → Nat} {f1 : α1 → List D} {s1 : α1 → Nat} {f2 : α2 → List D} {s2 : α2 → Nat} {n : Nat} {t t0 t1 t2 : TypeId} {k0 o0 b0 k1 o1 b1 k2 o2 b2 : Nat} {n0 g0 p0 n1 g1 p1 n2 g2 p2 : String} {e0 e1 e2 : Bool}
  (ht : P.underlying t = some (.struct #[⟨n0, t0, o0, e0, g0, p0, b0⟩, ⟨n1, t1, o1, e1, g1, p1, b1⟩, ⟨n2, t2, o2, e2, g2, p2, b2⟩]))
  (ct : P.cellsOf t = k0 + k1 + k2) (c0 : P.cellsOf t0 = k0) (l0 : ∀ x, (f0 x).length = k0) (h0 : ReadsAt enc P w bulk n t0 f0 s0) (c1 : P.cellsOf t1 = k1) (l1 : ∀ x, (f1 x).length = k1) (h1 : ReadsAt enc P w bulk n t1 f1 s1) (c2 : P.cellsOf t2 = k2) (l2 : ∀ x, (f2 x).length = k2) (h2 : ReadsAt enc P w bulk n t2 f2 s2) (q0 : o0 = 0 := by rfl) (q1 : o1 = 0+k0 := by rfl) (q2 : o2 = 0+k0+k1 := by rfl) :
  ReadsAt enc P w bulk (n + 1) t (fun x : α0 × α1 × α2 × Unit => f0 (x.1) ++ (f1 (x.2.1) ++ (f2 (x.2.2.1) ++ []))) (fun x => s0 (x.1) + (s1 (x.2.1) + (s2 (x.2.2.1) + 0)) + 1) := by
 have hF := zxB (enc := enc) (w := w) hb (n := n) (fd := ⟨n0, t0, o0, e0, g0, p0, b0⟩) q0 c0 l0 h0 (zxB (enc := enc) (w := w) hb (n := n) (fd := ⟨n1, t1, o1, e1, g1, p1, b1⟩) q1 c1 l1 h1 (zxB (enc := enc) (w := w) hb (n := n) (fd := ⟨n2, t2, o2, e2, g2, p2, b2⟩) q2 c2 l2 h2 (zWE (enc := enc) (P := P) (w := w) (bulk := bulk) (all := all) (n := n))))
 exact zqq hb ht (fun x => by rw [ct]; simp only [lA, lN, l0, l1, l2]; omega) hF
end Go.Abs
end
section
namespace Go.Abs.Seat
open Go Go.Abs Go.Proofs
def tl0 : List (Nat × Ty) := [(1, .cell (.d .nilf)), (2, .cell (0:Int)), (3, .cell (0:Int)), (4, .cell (.d (.bool false))), (5, .cell (.d (.int .u8 0))), (6, .cell (.d (.int .u8 0))), (7, .agg [(0:Int), (0:Int), .d (.bool false), .d (.int .u8 0)] [(0, 1, false), (1, 1, false), (2, 1, false), (3, 1, false)]), (8, .agg [(0:Int), (0:Int), .d (.bool false), .d (.int .u8 0)] [(0, 1, false), (1, 1, false), (2, 1, false), (3, 1, false)]), (9, .cell (.d (.str []))), (10, .cell (.d (.str []))), (11, .cell (.d (.str []))), (12, .cell (.d (.int .u64 0))), (15, .cell (.d .nilp)), (16, .cell (.d .nilp)), (17, .cell (.d .nilp))]
def tl1 : List (Nat × Ty) := [(18, .agg [.d .nilp] [(0, 1, false)]), (19, .agg [.d .nilp] [(0, 1, false)]), (21, .cell (.d (.int .i32 0))), (22, .slice 3 56 [.d (.str []), .full [], .d (.str [])]), (23, .slice 2 32 [.d (.str []), .d (.str [])]), (24, .cell (0:Int)), (25, .slice 4 56 [(0:Int), .d (.str []), (0:Int), .full []]), (26, .agg [(0:Int), .d (.str []), (0:Int), .full []] [(0, 1, false), (1, 1, false), (2, 1, false), (3, 1, false)]), (27, .agg [(0:Int), .d (.str []), (0:Int), .full []] [(0, 1, false), (1, 1, false), (2, 1, false), (3, 1, false)]), (28, .agg [.d (.str []), .full [], (0:Int), .d (.str []), (0:Int), .full []] [(0, 1, false), (1, 1, false), (2, 4, true)]), (29, .agg [.d (.str []), .full [], (0:Int), .d (.str []), (0:Int), .full []] [(0, 1, false), (1, 1, false), (2, 4, true)]), (30, .cell (.d .nilf)), (31, .agg [.d (.str []), .full []] [(0, 1, false), (1, 1, false)]), (32, .agg [.d (.str []), .full []] [(0, 1, false), (1, 1, false)]), (33, .cell (.d .nilf))]
def tl2 : List (Nat × Ty) := [(34, .slice 1 16 [.d (.str [])]), (35, .cell (.d (.str []))), (36, .agg [.d (.str []), .full [], .d (.str [])] [(0, 1, false), (1, 1, false), (2, 1, false)]), (37, .agg [.d (.str []), .full [], .d (.str [])] [(0, 1, false), (1, 1, false), (2, 1, false)]), (38, .cell (0:Int)), (39, .cell (.d .nilf)), (40, .cell (.d .nilf)), (41, .cell (.d .nilf)), (42, .cell (.d .nilf)), (43, .slice 6 96 [.d (.str []), .full [], (0:Int), .d (.str []), (0:Int), .full []]), (44, .cell (.d .nilf)), (45, .cell (.d .nilf)), (46, .cell (.d .nilf)), (47, .cell (.d .nilf)), (48, .cell (.d .nilf))]
def tl3 : List (Nat × Ty) := [(49, .cell (.d .nilf)), (50, .cell (.d .nilf)), (51, .cell (.d .nilf)), (52, .cell (.d .nilf)), (53, .slice 2 40 [.d (.str []), .full []]), (54, .agg [.full [], .full [], .full []] [(0, 1, false), (1, 1, false), (2, 1, false)]), (55, .agg [.full [], .full [], .full []] [(0, 1, false), (1, 1, false), (2, 1, false)]), (56, .cell (.d .nilf)), (57, .cell (.d .nilf)), (58, .cell (.d .nilf)), (59, .agg [.d (.str []), .d (.str [])] [(0, 1, false), (1, 1, false)]), (60, .agg [.d (.str []), .d (.str [])] [(0, 1, false), (1, 1, false)]), (61, .cell (.d .nilf)), (62, .cell (.d .nilf)), (63, .cell (.d .nilf))]
def tl4 : List (Nat × Ty) := [(64, .cell (.d .nilf)), (65, .cell (.d .nilf)), (66, .cell (.d .nilf)), (67, .cell (.d .nilf)), (68, .cell (.d .nilf)), (69, .slice 1 16 [.d (.str [])]), (70, .cell (.d .nilf)), (71, .cell (.d .nilf)), (72, .cell (.d .nilf)), (73, .cell (.d .nilf)), (74, .cell (.d .nilf)), (75, .slice 1 8 [(0:Int)]), (76, .cell (.d .nilf)), (77, .cell (.d .nilf)), (78, .cell (.d .nilf))]
def tl5 : List (Nat × Ty) := [(79, .cell (.d .nilf)), (80, .cell (.d .nilf)), (81, .cell (.d .nilf)), (82, .cell (.d .nilf)), (83, .cell (.d .nilf)), (84, .cell (.d .nilf)), (85, .cell (.d .nilf)), (86, .cell (.d .nilf)), (87, .cell (.d .nilf)), (89, .cell (.d .nilf)), (90, .cell (.d .nilf)), (92, .cell (.d .nilf)), (94, .cell (.d .nilf)), (95, .cell (.d .nilf)), (96, .cell (.d .nilf))]
def tl6 : List (Nat × Ty) := [(97, .cell (.d .nilf)), (98, .slice 1 1 [.d (.bool false)]), (99, .cell (.d .nilf)), (100, .cell (.d .nilf)), (101, .cell (.d .nilf)), (102, .cell (.d .nilf)), (103, .cell (.d .nilf)), (104, .cell (.d .nilf)), (105, .cell (.d .nilf)), (106, .cell (.d .nilf)), (107, .cell (.d .nilf)), (108, .cell (.d .nilf)), (109, .cell (.d .nilf)), (110, .cell (.d .nilf)), (111, .cell (.d .nilf))]
def tl7 : List (Nat × Ty) := [(112, .cell (.d .nilf)), (113, .cell (.d .nilf)), (114, .cell (.d .nilf)), (115, .cell (.d .nilf)), (116, .cell (.d .nilf)), (117, .cell (.d .nilf)), (118, .cell (.d .nilf)), (119, .cell (.d .nilf)), (120, .cell (.d .nilf)), (122, .cell (.d .nilf)), (123, .cell (.d .nilf)), (124, .cell (.d .nilf)), (125, .cell (.d .nilf)), (126, .cell (.d .nilf)), (128, .cell (.d .nilf))]
def tl8 : List (Nat × Ty) := [(129, .cell (.d .nilf)), (130, .cell (.d .nilf)), (131, .agg [.d .nilf, .d (.str [])] [(0, 1, false), (1, 1, false)]), (132, .agg [.d .nilf, .d (.str [])] [(0, 1, false), (1, 1, false)]), (133, .cell (.d .nilf)), (134, .arr 42 1 false [.d (.str []), .d (.str []), .d (.str []), .d (.str []), .d (.str []), .d (.str []), .d (.str []), .d (.str []), .d (.str []), .d (.str []), .d (.str []), .d (.str []), .d (.str []), .d (.str []), .d (.str []), .d (.str []), .d (.str []), .d (.str []), .d (.str []), .d (.str []), .d (.str []), .d (.str []), .d (.str []), .d (.str []), .d (.str []), .d (.str []), .d (.str []), .d (.str []), .d (.str []), .d (.str []), .d (.str []), .d (.str []), .d (.str []), .d (.str []), .d (.str []), .d (.str []), .d (.str []), .d (.str []), .d (.str []), .d (.str []), .d (.str []), .d (.str [])]), (135, .cell (.d .nilf)), (136, .cell (.d .nilf)), (137, .cell (.d .nilf)), (139, .cell (.d .nilf)), (140, .cell (.d .nilf)), (142, .cell (.d .nilf)), (143, .cell (.d .nilf)), (144, .cell (.d .nilf)), (145, .cell (.d .nilf))]
def tl9 : List (Nat × Ty) := [(146, .arr 24 1 false [.d (.int .u8 0), .d (.int .u8 0), .d (.int .u8 0), .d (.int .u8 0), .d (.int .u8 0), .d (.int .u8 0), .d (.int .u8 0), .d (.int .u8 0), .d (.int .u8 0), .d (.int .u8 0), .d (.int .u8 0), .d (.int .u8 0), .d (.int .u8 0), .d (.int .u8 0), .d (.int .u8 0), .d (.int .u8 0), .d (.int .u8 0), .d (.int .u8 0), .d (.int .u8 0), .d (.int .u8 0), .d (.int .u8 0), .d (.int .u8 0), .d (.int .u8 0), .d (.int .u8 0)]), (147, .cell (.d (.int .u64 0))), (148, .cell (.d .nilf)), (149, .cell (.d .nilf)), (150, .slice 1 1 [.d (.int .u8 0)]), (152, .cell (.d .nilf)), (153, .cell (.d .nilf)), (154, .cell (.d .nilf)), (155, .cell (.d .nilf)), (156, .cell (.d .nilf)), (157, .cell (.d .nilf)), (158, .arr 20 1 false [.d (.int .u64 0), .d (.int .u64 0), .d (.int .u64 0), .d (.int .u64 0), .d (.int .u64 0), .d (.int .u64 0), .d (.int .u64 0), .d (.int .u64 0), .d (.int .u64 0), .d (.int .u64 0), .d (.int .u64 0), .d (.int .u64 0), .d (.int .u64 0), .d (.int .u64 0), .d (.int .u64 0), .d (.int .u64 0), .d (.int .u64 0), .d (.int .u64 0), .d (.int .u64 0), .d (.int .u64 0)]), (159, .cell (.d (.int .u32 0))), (160, .arr 65 1 false [.d (.int .u8 0), .d (.int .u8 0), .d (.int .u8 0), .d (.int .u8 0), .d (.int .u8 0), .d (.int .u8 0), .d (.int .u8 0), .d (.int .u8 0), .d (.int .u8 0), .d (.int .u8 0), .d (.int .u8 0), .d (.int .u8 0), .d (.int .u8 0), .d (.int .u8 0), .d (.int .u8 0), .d (.int .u8 0), .d (.int .u8 0), .d (.int .u8 0), .d (.int .u8 0), .d (.int .u8 0), .d (.int .u8 0), .d (.int .u8 0), .d (.int .u8 0), .d (.int .u8 0), .d (.int .u8 0), .d (.int .u8 0), .d (.int .u8 0), .d (.int .u8 0), .d (.int .u8 0), .d (.int .u8 0), .d (.int .u8 0), .d (.int .u8 0), .d (.int .u8 0), .d (.int .u8 0), .d (.int .u8 0), .d (.int .u8 0), .d (.int .u8 0), .d (.int .u8 0), .d (.int .u8 0), .d (.int .u8 0), .d (.int .u8 0), .d (.int .u8 0), .d (.int .u8 0), .d (.int .u8 0), .d (.int .u8 0), .d (.int .u8 0), .d (.int .u8 0), .d (.int .u8 0), .d (.int .u8 0), .d (.int .u8 0), .d (.int .u8 0), .d (.int .u8 0), .d (.int .u8 0), .d (.int .u8 0), .d (.int .u8 0), .d (.int .u8 0), .d (.int .u8 0), .d (.int .u8 0), .d (.int .u8 0), .d (.int .u8 0), .d (.int .u8 0), .d (.int .u8 0), .d (.int .u8 0), .d (.int .u8 0), .d (.int .u8 0)]), (161, .cell (.d (.int .u64 0)))]
def tl10 : List (Nat × Ty) := [(162, .cell (.d .nilf)), (163, .cell (.d .nilf)), (164, .arr 32 1 false [.d (.int .u8 0), .d (.int .u8 0), .d (.int .u8 0), .d (.int .u8 0), .d (.int .u8 0), .d (.int .u8 0), .d (.int .u8 0), .d (.int .u8 0), .d (.int .u8 0), .d (.int .u8 0), .d (.int .u8 0), .d (.int .u8 0), .d (.int .u8 0), .d (.int .u8 0), .d (.int .u8 0), .d (.int .u8 0), .d (.int .u8 0), .d (.int .u8 0), .d (.int .u8 0), .d (.int .u8 0), .d (.int .u8 0), .d (.int .u8 0), .d (.int .u8 0), .d (.int .u8 0), .d (.int .u8 0), .d (.int .u8 0), .d (.int .u8 0), .d (.int .u8 0), .d (.int .u8 0), .d (.int .u8 0), .d (.int .u8 0), .d (.int .u8 0)]), (165, .arr 64 1 false [.d (.int .u8 0), .d (.int .u8 0), .d (.int .u8 0), .d (.int .u8 0), .d (.int .u8 0), .d (.int .u8 0), .d (.int .u8 0), .d (.int .u8 0), .d (.int .u8 0), .d (.int .u8 0), .d (.int .u8 0), .d (.int .u8 0), .d (.int .u8 0), .d (.int .u8 0), .d (.int .u8 0), .d (.int .u8 0), .d (.int .u8 0), .d (.int .u8 0), .d (.int .u8 0), .d (.int .u8 0), .d (.int .u8 0), .d (.int .u8 0), .d (.int .u8 0), .d (.int .u8 0), .d (.int .u8 0), .d (.int .u8 0), .d (.int .u8 0), .d (.int .u8 0), .d (.int .u8 0), .d (.int .u8 0), .d (.int .u8 0), .d (.int .u8 0), .d (.int .u8 0), .d (.int .u8 0), .d (.int .u8 0), .d (.int .u8 0), .d (.int .u8 0), .d (.int .u8 0), .d (.int .u8 0), .d (.int .u8 0), .d (.int .u8 0), .d (.int .u8 0), .d (.int .u8 0), .d (.int .u8 0), .d (.int .u8 0), .d (.int .u8 0), .d (.int .u8 0), .d (.int .u8 0), .d (.int .u8 0), .d (.int .u8 0), .d (.int .u8 0), .d (.int .u8 0), .d (.int .u8 0), .d (.int .u8 0), .d (.int .u8 0), .d (.int .u8 0), .d (.int .u8 0), .d (.int .u8 0), .d (.int .u8 0), .d (.int .u8 0), .d (.int .u8 0), .d (.int .u8 0), .d (.int .u8 0), .d (.int .u8 0)]), (166, .cell (.d .nilf)), (167, .agg [.d .nilp, .d .nilp, .d .nilp, .d (.str [])] [(0, 1, false), (1, 1, false), (2, 1, false), (3, 1, false)]), (168, .agg [.d .nilp, .d .nilp, .d .nilp, .d (.str [])] [(0, 1, false), (1, 1, false), (2, 1, false), (3, 1, false)]), (169, .arr 0 1 false []), (172, .cell (.d .nilf)), (173, .cell (.d (.int .u8 0))), (174, .cell (.d (.int .u8 0))), (175, .cell (.d .nilf)), (176, .cell (.d .nilp)), (177, .cell (.d (.int .i32 0))), (178, .cell (.d (.int .i32 0)))]
def tl11 : List (Nat × Ty) := [(179, .agg [.d (.int .u64 0), .d (.int .u64 0), .d (.int .u32 0), .d (.int .u8 0), .d (.int .u8 0), .d (.int .u8 0), .d (.int .u8 0), .d .nilf, .d .nilp, .d (.int .i32 0), .d (.int .i32 0)] [(0, 1, false), (1, 1, false), (2, 1, false), (3, 1, false), (4, 1, false), (5, 1, false), (6, 1, false), (7, 1, false), (8, 1, false), (9, 1, false), (10, 1, false)]), (180, .agg [.d (.int .u64 0), .d (.int .u64 0), .d (.int .u32 0), .d (.int .u8 0), .d (.int .u8 0), .d (.int .u8 0), .d (.int .u8 0), .d .nilf, .d .nilp, .d (.int .i32 0), .d (.int .i32 0)] [(0, 1, false), (1, 1, false), (2, 1, false), (3, 1, false), (4, 1, false), (5, 1, false), (6, 1, false), (7, 1, false), (8, 1, false), (9, 1, false), (10, 1, false)]), (181, .cell (.d .nilp))]
def tl : List (Nat × Ty) := tl0 ++ (tl1 ++ (tl2 ++ (tl3 ++ (tl4 ++ (tl5 ++ (tl6 ++ (tl7 ++ (tl8 ++ (tl9 ++ (tl10 ++ (tl11)))))))))))
theorem tl_ok : chkTL Tryz.prog tl = true := by kernel_rfl
theorem mixed : Tryz.prog.follows .mixedOrders = true := by kernel_rfl
theorem ev {f : FuncId} {fn : Func} {fa : FnA} {G : Nat → Option (List D)} {args : List CV} {r : CV} (hf : Tryz.prog.funcs[f]? = some fn) (htr : trFn (getTy tl) fn = some fa) (h : Body ⟨G, Ev Tryz.prog G, ItOk Tryz.prog G⟩ fa args r) : Ev Tryz.prog G f args r := yzD hf htr (fun _ _ _ h => h) (fun _ _ _ h => h) rfl (fun _ _ ht => zvP tl_ok ht) mixed h
theorem ykR : trFn (getTy tl) Tryz.f125 = some zkm := by kernel_rfl
theorem ykQ : trFn (getTy tl) Tryz.f124 = some zxN := by kernel_rfl
theorem tr_64 : trFn (getTy tl) Tryz.f64 = some zwf := by kernel_rfl
theorem tr_79 : trFn (getTy tl) Tryz.f79 = some zyg := by kernel_rfl
theorem tr_78 : trFn (getTy tl) Tryz.f78 = some zy4 := by kernel_rfl
theorem tr_60 : trFn (getTy tl) Tryz.f60 = some zzE := by kernel_rfl
theorem sys (G : Nat → Option (List D)) : Sys ⟨G, Ev Tryz.prog G, ItOk Tryz.prog G⟩ where
 zyp _ _ := ev Tryz.func3 (by kernel_rfl)
 zyw _ _ := ev Tryz.func4 (by kernel_rfl)
 zyK _ _ := ev Tryz.func5 (by kernel_rfl)
 zyZ _ _ := ev Tryz.func6 (by kernel_rfl)
 zyx _ _ := ev Tryz.func7 (by kernel_rfl)
 zyL _ _ := ev Tryz.func8 (by kernel_rfl)
 zxf _ _ := ev Tryz.func9 (by kernel_rfl)
 zzN _ _ := ev Tryz.func10 (by kernel_rfl)
 zzG _ _ := ev Tryz.func11 (by kernel_rfl)
 zv9 _ _ := ev Tryz.func12 (by kernel_rfl)
 zkn _ _ := ev Tryz.func13 (by kernel_rfl)
 zzC _ _ := ev Tryz.func14 (by kernel_rfl)
 zko _ _ := ev Tryz.func15 (by kernel_rfl)
 zz8 _ _ := ev Tryz.func16 (by kernel_rfl)
 zZx _ _ := ev Tryz.func17 (by kernel_rfl)
 zjC _ _ := ev Tryz.func18 (by kernel_rfl)
 zyc _ _ := ev Tryz.func19 (by kernel_rfl)
 zk1 _ _ := ev Tryz.func20 (by kernel_rfl)
 zwk _ _ := ev Tryz.func21 (by kernel_rfl)
 zxj _ _ := ev Tryz.func22 (by kernel_rfl)
 zKA _ _ := ev Tryz.func23 (by kernel_rfl)
 zvZ _ _ := ev Tryz.func24 (by kernel_rfl)
 zyO _ _ := ev Tryz.func25 (by kernel_rfl)
 zwU _ _ := ev Tryz.func26 (by kernel_rfl)
 zvk _ _ := ev Tryz.func27 (by kernel_rfl)
 zxW _ _ := ev Tryz.func28 (by kernel_rfl)
 l45_v _ _ := ev Tryz.func29 (by kernel_rfl)
 zyF _ _ := ev Tryz.func30 (by kernel_rfl)
 zx1 _ _ := ev Tryz.func31 (by kernel_rfl)
 zzp _ _ := ev Tryz.func32 (by kernel_rfl)
 zzT _ _ := ev Tryz.func33 (by kernel_rfl)
 zwG _ _ := ev Tryz.func34 (by kernel_rfl)
 zxQ _ _ := ev Tryz.func35 (by kernel_rfl)
 zwZ _ _ := ev Tryz.func36 (by kernel_rfl)
 zqS _ _ := ev Tryz.func37 (by kernel_rfl)
 zym _ _ := ev Tryz.func38 (by kernel_rfl)
 zyX _ _ := ev Tryz.func39 (by kernel_rfl)
 zxo _ _ := ev Tryz.func40 (by kernel_rfl)
 zzg _ _ := ev Tryz.func41 (by kernel_rfl)
 zzZ _ _ := ev Tryz.func42 (by kernel_rfl)
 zyy _ _ := ev Tryz.func43 (by kernel_rfl)
 zk2 _ _ := ev Tryz.func44 (by kernel_rfl)
 zx5 _ _ := ev Tryz.func45 (by kernel_rfl)
 zzR _ _ := ev Tryz.func46 (by kernel_rfl)
 zzS _ _ := ev Tryz.func47 (by kernel_rfl)
 zjw _ _ := ev Tryz.func48 (by kernel_rfl)
 zxp _ _ := ev Tryz.func49 (by kernel_rfl)
 zxI _ _ := ev Tryz.func50 (by kernel_rfl)
 zxA _ _ := ev Tryz.func51 (by kernel_rfl)
 zx2 _ _ := ev Tryz.func52 (by kernel_rfl)
 zyq _ _ := ev Tryz.func53 (by kernel_rfl)
 zzm _ _ := ev Tryz.func54 (by kernel_rfl)
 zzy _ _ := ev Tryz.func56 (by kernel_rfl)
 zxv _ _ := ev Tryz.func57 (by kernel_rfl)
 zyd _ _ := ev Tryz.func58 (by kernel_rfl)
 zz9 _ _ := ev Tryz.func59 (by kernel_rfl)
 zzD _ _ := ev Tryz.func60 tr_60
 zw1 _ _ := ev Tryz.func61 (by kernel_rfl)
 zqV _ _ := ev Tryz.func62 (by kernel_rfl)
 zYs _ _ := ev Tryz.func63 (by kernel_rfl)
 zxC _ _ := ev Tryz.func64 tr_64
 zkX _ _ := ev Tryz.func65 (by kernel_rfl)
 zkt _ _ := ev Tryz.func66 (by kernel_rfl)
 zww _ _ := ev Tryz.func67 (by kernel_rfl)
 zxh _ _ := ev Tryz.func68 (by kernel_rfl)
 zzX _ _ := ev Tryz.func69 (by kernel_rfl)
 zku _ _ := ev Tryz.func70 (by kernel_rfl)
 zzt _ _ := ev Tryz.func71 (by kernel_rfl)
 zv5 _ _ := ev Tryz.func72 (by kernel_rfl)
 zv3 _ _ := ev Tryz.func73 (by kernel_rfl)
 zv4 _ _ := ev Tryz.func74 (by kernel_rfl)
 zqK _ _ := ev Tryz.func75 (by kernel_rfl)
 zqT _ _ := ev Tryz.func76 (by kernel_rfl)
 zKx _ _ := ev Tryz.func77 (by kernel_rfl)
 zzH _ _ := ev Tryz.func78 tr_78
 zzh _ _ := ev Tryz.func79 tr_79
 zzl _ _ := ev Tryz.func80 (by kernel_rfl)
 zks _ _ := ev Tryz.func81 (by kernel_rfl)
 zxi _ _ := ev Tryz.func82 (by kernel_rfl)
 zxn _ _ := ev Tryz.func83 (by kernel_rfl)
 zkw _ _ := ev Tryz.func84 (by kernel_rfl)
 zzr _ _ := ev Tryz.func85 (by kernel_rfl)
 zz4 _ _ := ev Tryz.func86 (by kernel_rfl)
 zv1 _ _ := ev Tryz.func88 (by kernel_rfl)
 zzs _ _ := ev Tryz.func89 (by kernel_rfl)
 zzw _ _ := ev Tryz.func90 (by kernel_rfl)
 zwz _ _ := ev Tryz.func91 (by kernel_rfl)
 zwy _ _ := ev Tryz.func92 (by kernel_rfl)
 zwA _ _ := ev Tryz.func93 (by kernel_rfl)
 zkY _ _ := ev Tryz.func94 (by kernel_rfl)
 zz5 _ _ := ev Tryz.func95 (by kernel_rfl)
 zzP _ _ := ev Tryz.func96 (by kernel_rfl)
 zyr _ _ := ev Tryz.func97 (by kernel_rfl)
 zzQ _ _ := ev Tryz.func98 (by kernel_rfl)
 zqP _ _ := ev Tryz.func99 (by kernel_rfl)
 zkZ _ _ := ev Tryz.func100 (by kernel_rfl)
 zv7 _ _ := ev Tryz.func101 (by kernel_rfl)
 zxY _ _ := ev Tryz.func102 (by kernel_rfl)
 zk3 _ _ := ev Tryz.func103 (by kernel_rfl)
 zWD _ _ := ev Tryz.func104 (by kernel_rfl)
 zjy _ _ := ev Tryz.func105 (by kernel_rfl)
 zqN _ _ := ev Tryz.func106 (by kernel_rfl)
 zv6 _ _ := ev Tryz.func107 (by kernel_rfl)
 zzU _ _ := ev Tryz.func108 (by kernel_rfl)
 zx8 _ _ := ev Tryz.func109 (by kernel_rfl)
 zyW _ _ := ev Tryz.func110 (by kernel_rfl)
 zxu _ _ := ev Tryz.func111 (by kernel_rfl)
 zxg _ _ := ev Tryz.func112 (by kernel_rfl)
 zyV _ _ := ev Tryz.func113 (by kernel_rfl)
 zxl _ _ := ev Tryz.func114 (by kernel_rfl)
 zwF _ _ := ev Tryz.func115 (by kernel_rfl)
 zwj _ _ := ev Tryz.func116 (by kernel_rfl)
 zxk _ _ := ev Tryz.func117 (by kernel_rfl)
 zWA _ _ := ev Tryz.func118 (by kernel_rfl)
 zzx _ _ := ev Tryz.func119 (by kernel_rfl)
 zjx _ _ := ev Tryz.func120 (by kernel_rfl)
 zjA _ _ := ev Tryz.func121 (by kernel_rfl)
 zxw _ _ := ev Tryz.func123 (by kernel_rfl)
 zzY _ _ := ev Tryz.func124 ykQ
 zxx _ _ := ev Tryz.func125 ykR
 zv0 _ _ := ev Tryz.func126 (by kernel_rfl)
 zwB _ _ := ev Tryz.func127 (by kernel_rfl)
 zKv _ _ := ev Tryz.func128 (by kernel_rfl)
 zqO _ _ := ev Tryz.func129 (by kernel_rfl)
 zk0 _ _ := ev Tryz.func130 (by kernel_rfl)
 zjz _ _ := ev Tryz.func131 (by kernel_rfl)
 zxX _ _ := ev Tryz.func132 (by kernel_rfl)
 zyD _ _ := ev Tryz.func133 (by kernel_rfl)
 zjb _ _ := ev Tryz.func134 (by kernel_rfl)
 zw0 _ _ := ev Tryz.func135 (by kernel_rfl)
 zqW _ _ := ev Tryz.func137 (by kernel_rfl)
 zyN _ _ := ev Tryz.func138 (by kernel_rfl)
 zy1 _ _ := ev Tryz.func139 (by kernel_rfl)
 zy2 _ _ := ev Tryz.func140 (by kernel_rfl)
 zx3 _ _ := ev Tryz.func141 (by kernel_rfl)
 zYt _ _ := ev Tryz.func142 (by kernel_rfl)
 zYv _ _ := ev Tryz.func143 (by kernel_rfl)
 zqU _ _ := ev Tryz.func144 (by kernel_rfl)
 zxz _ _ := ev Tryz.func145 (by kernel_rfl)
 zqR _ _ := ev Tryz.func147 (by kernel_rfl)
 zYu _ _ := ev Tryz.func148 (by kernel_rfl)
 zjf _ _ := ev Tryz.func149 (by kernel_rfl)
 zxD _ _ := ev Tryz.func150 (by kernel_rfl)
 zjg _ _ := ev Tryz.func151 (by kernel_rfl)
 zxr _ _ := ev Tryz.func152 (by kernel_rfl)
 zyk _ _ := ev Tryz.func153 (by kernel_rfl)
 zqL _ _ := ev Tryz.func154 (by kernel_rfl)
 zxy _ _ := ev Tryz.func155 (by kernel_rfl)
 zqM _ _ := ev Tryz.func156 (by kernel_rfl)
 zqo _ _ := ev Tryz.func157 (by kernel_rfl)
 zv8 _ _ := ev Tryz.func162 (by kernel_rfl)
 zqQ _ _ := ev Tryz.func163 (by kernel_rfl)
 zKw _ _ := ev Tryz.func164 (by kernel_rfl)
 zkv _ _ := ev Tryz.func165 (by kernel_rfl)
 zzv _ _ := ev Tryz.func166 (by kernel_rfl)
 zzz _ _ := ev Tryz.func167 (by kernel_rfl)
 zya _ _ := ev Tryz.func168 (by kernel_rfl)
def X (G : Nat → Option (List D)) : AEnv := ⟨G, Ev Tryz.prog G, ItOk Tryz.prog G⟩
theorem zVm (G : Nat → Option (List D)) (p : Pred) : ItOk Tryz.prog G zzY [.ref (Pred.cells p)] (yields p.pre) := zJB (P := Tryz.prog) (T := getTy tl) (fun _ _ ht => zvP tl_ok ht) Tryz.func125 ykR Tryz.func124 ykQ p
def G0 : Nat → Option (List D) := fun g => if g = 0 then some (kws.map .str) else none
end Go.Abs.Seat
end
section
namespace Go.Proofs
open Go.Shelf
def Tryz.zKV : Go.Shelf.Ren := ⟨fun | 16 => 55 | n => n, fun | 24 => 69 | 9 => 9 | 4 => 4 | n => n, fun | n => n⟩
theorem Tryz.laysNm216 : Go.Proofs.Lays2.n16 Tryz.prog Tryz.zKV := {
 mixed := by kernel_rfl
 f16 := Tryz.func55.trans (congrArg some (by kernel_rfl))
 t4 := Tryz.underlying4
 a4 := Tryz.isAgg4
 z4 := Tryz.sizeOf4
 v4 := Tryz.zeroValue4
 t9 := Tryz.underlying9
 a9 := Tryz.isAgg9
 z9 := Tryz.sizeOf9
 v9 := Tryz.zeroValue9
 t24 := Tryz.underlying69
 a24 := Tryz.isAgg69
 z24 := Tryz.sizeOf69
 v24 := Tryz.zeroValue69
 i9 := by kernel_rfl }
open Go.RowKit Go.Lib in
theorem Tryz.slices_Clone_string (b off n c : Nat) (zs : List ByteArray) (w : World) (hz : n ≤ zs.length) (hbig : n * 16 ≤ 140737488355328) (hc : ∀ j, j < zs.length → w.cell? ⟨b, off + j, none⟩ = some (.string (zs.getD j ByteArray.empty))) :
  Calls Tryz.prog 55 #[.slice (some ⟨b, off, none⟩) n c] w fun e w' => ∃ v', e = .returned v' ∧ w'.ownsRow w.heap.size 9 1 v' n ((zs.take n).map (Value.string)) ∧ v' ≠ .slice none 0 0 ∧ Below w.heap.size w w' := Any.slices_Clone_string Tryz.laysNm216 b off n c zs w hz hbig hc
open Go.RowKit Go.Lib in
theorem Tryz.slices_Clone_string_nil (n c : Nat) (w : World) :
  Calls Tryz.prog 55 #[.slice none n c] w fun e w' => e = .returned (.slice none 0 0) ∧ w' = w := Any.slices_Clone_string_nil Tryz.laysNm216 n c w
open Go.RowKit Go.Lib in
theorem Tryz.slices_Clone_string_zero (a : Addr) (c : Nat) (w : World) :
  Calls Tryz.prog 55 #[.slice (some a) 0 c] w fun e w' => ∃ v', e = .returned v' ∧ w'.ownsRow w.heap.size 9 1 v' 0 [] ∧ v' ≠ .slice none 0 0 ∧ Below w.heap.size w w' := Any.slices_Clone_string_zero Tryz.laysNm216 a c w
end Go.Proofs
end
section
namespace Go.Abs.Seat
open Go Go.Abs Go.Proofs Go.RowKit
theorem fam : Fam X := ⟨fun G => sys G, fun _ => rfl, zVm⟩
theorem famQ : FamQ X := ⟨fun G => sys G, fun _ => rfl⟩
theorem yws : ∀ G bs dep args r, BodyF X bs dep G zwf args r → (X G).C zxC args r :=
 fun _ _ _ _ _ h => zXN Tryz.func64 tr_64 (fun _ _ _ _ h => h) (fun _ _ _ _ h => h) (fun _ => rfl) (fun _ _ ht => zvP tl_ok ht) mixed h
theorem yzr : ∀ G bs dep args r, BodyF X bs dep G zzE args r → (X G).C zzD args r :=
 fun _ _ _ _ _ h => zXN Tryz.func60 tr_60 (fun _ _ _ _ h => h) (fun _ _ _ _ h => h) (fun _ => rfl) (fun _ _ ht => zvP tl_ok ht) mixed h
abbrev strV (s : List UInt8) : Value := .string ⟨s.toArray⟩
theorem zWP {w : World} {S : Safe} : ∀ {ss : List (List UInt8)} {l : List Value}, RepL w S (ss.map fun s => [D.str s]).flatten l → l = ss.map strV
 | [], l, h => by simp [RepL] at h; subst h; simp
 | s :: ss, l, h => by
  simp only [mC, List.flatten_cons, List.singleton_append] at h
  obtain ⟨v, r, h1, h2, h3⟩ := h
  obtain ⟨x, h4, h5, _⟩ := h2
  have h6 := zWP h3
  subst h1 h4 h6 h5
  simp [strV]
theorem ywz (G : Nat → Option (List D)) : Clone45 (X G) := by
 intro l hl
 refine ⟨⟨Tryz.f55, Tryz.func55, by kernel_rfl, by kernel_rfl⟩, fun w S cargs hlive hg ha => ?_⟩
 obtain ⟨v, r, h1, h2, h3⟩ := ha
 simp only [RepCL] at h3
 subst h3
 have h2 : Rep w S (.lst (l.map fun k => [.str k])) v := h2
 obtain rfl : cargs = #[v] := by cases cargs; simp_all
 have hlb : ∀ b o, S b o → b < w.heap.size := fun b o hs => by
  obtain ⟨v, hv⟩ := hlive b o hs
  exact zyz hv
 have keep : ∀ {w' : World}, Below w.heap.size w w' → Keeps w S w' S := fun hb b o hs => by
  obtain ⟨v, hv⟩ := hlive b o hs
  exact ⟨hs, hb.cell (p := ⟨b, o, none⟩) (zyz hv)⟩
 have live' : ∀ {w' : World}, Below w.heap.size w w' → Live w' S := fun hb b o hs => by
  obtain ⟨v, hv⟩ := hlive b o hs
  exact ⟨v, (hb.cell (p := ⟨b, o, none⟩) (zyz hv)).trans hv⟩
 obtain ⟨base, cap, rfl, hn, hcap, hnil, _⟩ := id h2
 obtain ⟨_, _, _, _, l2, hl2, hc2⟩ := zwv h2
 have hv2 := zWP hl2
 have nilR : ∀ (w' : World) (v : Value) (g cap : Nat), cap ≤ 9223372036854775807 → v = .slice (some ⟨g, 0, none⟩) 0 cap → Rep w' S (.lst []) v := by
  rintro w' v g cap hc rfl
  exact ⟨_, _, rfl, Nat.zero_le _, hc, (fun h => by cases h), fun a ha => ⟨fun _ => by cases ha; rfl, ⟨0, fun e he => by cases he⟩, trivial⟩⟩
 cases base with
 | none =>
  have h0 : cap = 0 := hnil rfl
  have hl0 : l = [] := List.eq_nil_of_length_eq_zero (by simp at hn; omega)
  subst hl0 h0
  refine (Tryz.slices_Clone_string_nil _ _ w).mono ?_
  rintro e w' ⟨rfl, rfl⟩
  exact ⟨_, S, rfl, .inl ⟨rfl, ⟨none, 0, rfl, Nat.le_refl _, by omega, fun _ => rfl, fun a ha => by cases ha⟩⟩, Below.refl _ _, fun _ _ h => h, fun _ _ h => .inl h, hlive⟩
 | some a =>
  obtain ⟨hsp, hc2⟩ := hc2 a rfl
  cases l with
  | nil =>
   refine (Tryz.slices_Clone_string_zero a _ w).mono ?_
   rintro e w' ⟨v', rfl, hown, hne, hb⟩
   refine ⟨v', S, rfl, .inl ⟨rfl, ?_⟩, hb, fun _ _ h => h, fun _ _ h => .inl h, live' hb⟩
   rcases hown.2 with ⟨e, _⟩ | ⟨g, cap', cur, rfl, _, _, _, hm, _⟩
   ·exact absurd e hne
   ·exact nilR w' _ g cap' hm rfl
  | cons s ss =>
   have hcap0 : cap ≠ 0 := by simp at hn; omega
   have hsp := hsp hcap0
   obtain ⟨ab, ao, asp⟩ := a
   simp only at hsp
   subst hsp
   generalize hL : s :: ss = L at *
   have hLne : L ≠ [] := by rw [← hL]; simp
   refine (Tryz.slices_Clone_string ab ao (L.map fun k => [D.str k]).length cap (L.map fun s => ⟨s.toArray⟩) w (by simp) (by simp; omega) ?_).mono ?_
   ·intro j hj
    rw [lM] at hj
    have := (hc2 j (strV L[j]) (by rw [hv2, List.getElem?_map, List.getElem?_eq_getElem hj]; rfl)).1
    rw [zys] at this
    rw [this, List.getD_eq_getElem?_getD, List.getElem?_map, List.getElem?_eq_getElem hj]
    rfl
   ·rintro e w' ⟨v', rfl, hown, hne, hb⟩
    refine ⟨v', S, rfl, .inr ⟨by simp [hLne], fun e he => ?_, ?_⟩, hb, fun _ _ h => h, fun _ _ h => .inl h, live' hb⟩
    ·obtain ⟨s, _, rfl⟩ := List.mem_map.1 he; rfl
    ·rcases hown.2 with ⟨e, _⟩ | ⟨g, cap', cur, rfl, hg1, hg2, hg3, hm, hsz, ht⟩
     ·exact absurd e hne
     ·refine ⟨g, cap', cur, 9, rfl, hg1, hg3, hm, hg2, hsz, ?_, fun o hs => by have := hlb _ _ hs; omega⟩
      rw [ht]
      have := RepL.keep (keep hb) _ _ hl2
      rw [hv2] at this
      have e : List.map Value.string (List.take (L.map fun k => [D.str k]).length (L.map fun s => (⟨s.toArray⟩ : ByteArray))) = L.map strV := by
       rw [List.take_of_length_le (by simp), List.map_map]; rfl
      rw [e]
      exact this
theorem law45 (G : Nat → Option (List D)) (hG : G 0 = some (kws.map .str)) (hI : Itoa45 (X G)) : Law45 (X G) where
 sys := sys G
 hG := hG
 it := zVm G
 of := fun v p hv => zVc fam yws hG v hv p
 it45 := fun q h hv hp h1 h2 => zVs (E := X G) rfl (fun _ _ _ h => h) (fun _ _ ht => zvP tl_ok ht) mixed (yyU (sys G)) Tryz.func79 tr_79 Tryz.func78 tr_78 hv hp h1 h2
 bool := fun name t p => zq3 famQ yzr name t p G
 itoa := hI
 clone := ywz G
end Go.Abs.Seat
end
section
namespace Go.Proofs
open Go.Shelf
def Tryz.zVT : Go.Shelf.Ren := ⟨fun | 171 => 87 | 243 => 122 | 246 => 146 | 283 => 158 | 284 => 159 | 285 => 160 | 286 => 161 | 129 => 170 | 317 => 169 | 318 => 171 | 319 => 172 | 320 => 173 | 337 => 174 | 338 => 175 | n => n, fun | 3 => 3 | 9 => 9 | 2 => 2 | 4 => 4 | 171 => 146 | 0 => 0 | 53 => 147 | 37 => 150 | 5 => 5 | 173 => 151 | 212 => 158 | 51 => 159 | 20 => 20 | 213 => 160 | 46 => 161 | 232 => 164 | 233 => 165 | n => n, fun | 17 => 1 | 18 => 2 | 19 => 3 | n => n⟩
theorem Tryz.laysM171 : Go.Proofs.LaysM.n171 Tryz.prog Tryz.zVT := {
 mixed := by kernel_rfl
 f129 := Tryz.func170.trans (congrArg some (by kernel_rfl))
 f171 := Tryz.func87.trans (congrArg some (by kernel_rfl))
 f243 := Tryz.func122.trans (congrArg some (by kernel_rfl))
 f246 := Tryz.func146.trans (congrArg some (by kernel_rfl))
 f283 := Tryz.func158.trans (congrArg some (by kernel_rfl))
 f284 := Tryz.func159.trans (congrArg some (by kernel_rfl))
 f285 := Tryz.func160.trans (congrArg some (by kernel_rfl))
 f286 := Tryz.func161.trans (congrArg some (by kernel_rfl))
 f317 := Tryz.func169.trans (congrArg some (by kernel_rfl))
 f318 := Tryz.func171.trans (congrArg some (by kernel_rfl))
 f319 := Tryz.func172.trans (congrArg some (by kernel_rfl))
 f320 := Tryz.func173.trans (congrArg some (by kernel_rfl))
 f337 := Tryz.func174.trans (congrArg some (by kernel_rfl))
 f338 := Tryz.func175.trans (congrArg some (by kernel_rfl))
 t0 := Tryz.underlying0
 a0 := Tryz.isAgg0
 z0 := Tryz.sizeOf0
 v0 := Tryz.zeroValue0
 t2 := Tryz.underlying2
 a2 := Tryz.isAgg2
 z2 := Tryz.sizeOf2
 v2 := Tryz.zeroValue2
 t3 := Tryz.underlying3
 a3 := Tryz.isAgg3
 z3 := Tryz.sizeOf3
 v3 := Tryz.zeroValue3
 t4 := Tryz.underlying4
 a4 := Tryz.isAgg4
 z4 := Tryz.sizeOf4
 v4 := Tryz.zeroValue4
 t5 := Tryz.underlying5
 a5 := Tryz.isAgg5
 z5 := Tryz.sizeOf5
 v5 := Tryz.zeroValue5
 t9 := Tryz.underlying9
 a9 := Tryz.isAgg9
 z9 := Tryz.sizeOf9
 v9 := Tryz.zeroValue9
 t20 := Tryz.underlying20
 a20 := Tryz.isAgg20
 z20 := Tryz.sizeOf20
 v20 := Tryz.zeroValue20
 t37 := Tryz.underlying150
 a37 := Tryz.isAgg150
 z37 := Tryz.sizeOf150
 v37 := Tryz.zeroValue150
 t46 := Tryz.underlying161
 a46 := Tryz.isAgg161
 z46 := Tryz.sizeOf161
 v46 := Tryz.zeroValue161
 t51 := Tryz.underlying159
 a51 := Tryz.isAgg159
 z51 := Tryz.sizeOf159
 v51 := Tryz.zeroValue159
 t53 := Tryz.underlying147
 a53 := Tryz.isAgg147
 z53 := Tryz.sizeOf147
 v53 := Tryz.zeroValue147
 t171 := Tryz.underlying146
 a171 := Tryz.isAgg146
 z171 := Tryz.sizeOf146
 v171 := Tryz.zeroValue146
 t173 := Tryz.underlying151
 a173 := Tryz.isAgg151
 z173 := Tryz.sizeOf151
 v173 := Tryz.zeroValue151
 t212 := Tryz.underlying158
 a212 := Tryz.isAgg158
 z212 := Tryz.sizeOf158
 v212 := Tryz.zeroValue158
 t213 := Tryz.underlying160
 a213 := Tryz.isAgg160
 z213 := Tryz.sizeOf160
 t232 := Tryz.underlying164
 a232 := Tryz.isAgg164
 z232 := Tryz.sizeOf164
 v232 := Tryz.zeroValue164
 t233 := Tryz.underlying165
 a233 := Tryz.isAgg165
 z233 := Tryz.sizeOf165
 v233 := Tryz.zeroValue165
 g17 := by kernel_rfl
 g18 := by kernel_rfl
 g19 := by kernel_rfl
 i0 := by kernel_rfl
 i2 := by kernel_rfl
 i3 := by kernel_rfl
 i4 := by kernel_rfl
 i5 := by kernel_rfl
 i9 := by kernel_rfl
 i20 := by kernel_rfl
 i37 := by kernel_rfl
 i46 := by kernel_rfl
 i51 := by kernel_rfl
 i53 := by kernel_rfl
 i171 := by kernel_rfl
 i173 := by kernel_rfl
 i212 := by kernel_rfl
 i232 := by kernel_rfl
 i233 := by kernel_rfl
 m17 := by kernel_rfl
 m18 := by kernel_rfl
 m19 := by kernel_rfl }
open Go.RowKit Go.Sort Go.Lib in
theorem Tryz.strconv_Itoa (n : Int) (h0 : -9223372036854775808 ≤ n) (h1 : n ≤ 9223372036854775807) (w : World) (htab : Lib.TabIs Tryz.prog w "internal/strconv.uint64pow10" .u64 Lib.pow10Tab) :
  Calls Tryz.prog 87 #[.int .i64 n] w fun e w' => e = .returned (.string ⟨(Lib.itoa n).toArray⟩) ∧ ∃ k os, w' = grow (w.drewN k) os := Any.strconv_Itoa Tryz.laysM171 n h0 h1 w htab
end Go.Proofs
end
section
namespace Go.Abs.Seat
open Go Go.Abs Go.Proofs
theorem yve {G : Nat → Option (List D)} (hg : Tryz.prog.globalNamed "internal/strconv.uint64pow10" = some 1) (hlt : 1 < Tryz.prog.globals.size) (hen : Enters Tryz.prog strconv_Itoa) (hG : G 1 = some (Lib.pow10Tab.map (D.int .u64))) (n : Int) (hn : I64 n) :
  Ev Tryz.prog G strconv_Itoa [.one (.int .i64 n)] (.one (.str (Lib.itoa n))) := by
 refine ⟨hen, fun w S cargs hl hgl ha => ?_⟩
 have htab : Lib.TabIs Tryz.prog w "internal/strconv.uint64pow10" .u64 Lib.pow10Tab := zQx hg (hgl.1 1 _ hG) (hgl.2.2 1 _ hlt hG (by decide))
 obtain ⟨v, r, h1, h2, h3⟩ := ha
 simp only [RepCL] at h3
 subst h3
 have h2 : v = .int .i64 n := h2
 subst h2
 obtain rfl : cargs = #[.int .i64 n] := by cases cargs; simp_all
 have hlen := Lib.itoa_length_le n hn.1 hn.2
 refine (Tryz.strconv_Itoa n hn.1 hn.2 w htab).mono ?_
 rintro e w' ⟨rfl, k, os, rfl⟩
 have hb := Lib.below_grow w.heap.size w (Nat.le_refl _) k os
 refine ⟨_, S, rfl, ⟨_, rfl, rfl, by show (Lib.itoa n).toArray.size ≤ _; rw [List.size_toArray]; omega⟩, hb, fun _ _ h => h, fun _ _ h => .inl h, fun b o hs => ?_⟩
 obtain ⟨v, hv⟩ := hl b o hs
 exact ⟨v, (hb.cell (p := ⟨b, o, none⟩) (zyz hv)).trans hv⟩
end Go.Abs.Seat
end
section
namespace Go.Abs.Seat
open Go Go.Abs Go.Proofs Go.Proofs.YtmlihiihcbmaoaaGreatDoor Go.RowKit Go.ChangeShapes
variable {H : Type} {enc : TypeId × Value → H} {w : World}
theorem bulkOk : BulkOk (Rows.uptoBulk (H := H)) Rows.uptoBulkAll where
 one d := by
  cases d with
  | lit l => cases l <;> simp only [Rows.uptoBulk] <;> omega
  | _ => simp only [Rows.uptoBulk]; omega
 str s := by simp only [Rows.uptoBulk]; omega
 slice a b := by simp only [Rows.uptoBulk]; omega
 agg a := by simp only [Rows.uptoBulk]; omega
 cons d r := by simp only [Rows.uptoBulkAll]; omega
theorem cs1 : ∀ t ∈ [3, 9, 22, 23, 24, 25, 34, 35, 43], Tryz.prog.cellsOf t = 1 := of_decide_eq_true (by kernel_rfl)
theorem c1 {t : Nat} (h : t ∈ [3, 9, 22, 23, 24, 25, 34, 35, 43] := by simp) : Tryz.prog.cellsOf t = 1 := cs1 t h
theorem c27 : Tryz.prog.cellsOf 27 = 4 := by kernel_rfl
theorem c60 : Tryz.prog.cellsOf 60 = 2 := by kernel_rfl
theorem c37 : Tryz.prog.cellsOf 37 = 3 := by kernel_rfl
theorem c32 : Tryz.prog.cellsOf 32 = 2 := by kernel_rfl
theorem c29 : Tryz.prog.cellsOf 29 = 6 := by kernel_rfl
theorem yxR (n : Nat) : ReadsAt enc Tryz.prog w Rows.uptoBulk n 27 Pred.cells Pred.sz :=
 yz2 bulkOk Tryz.underlying27 Tryz.underlying24 Tryz.underlying9 Tryz.underlying3 Tryz.underlying25 c27 c1 c1 c1 c1 n
theorem rd_preds (n : Nat) : ReadsAt enc Tryz.prog w Rows.uptoBulk n 25 (fun l : List Pred => [.lst (l.map Pred.cells)]) (fun l => (l.map Pred.sz).sum + 1) :=
 reads_slice' bulkOk Tryz.underlying25 (by rw [c27]; decide) (fun x => by rw [c27]; exact Pred.zzu x) yxR n
theorem rd_str (n : Nat) : ReadsAt enc Tryz.prog w Rows.uptoBulk n 9 (fun x : List UInt8 => [.str x]) (fun x => x.length + 1) := zxM bulkOk Tryz.underlying9
def sz1 {α : Type} : α → Nat := fun _ => 1
theorem yji : ∀ n, ReadsAt enc Tryz.prog w Rows.uptoBulk n 60 SVar.cells sz1
 | 0 => zx6
 | n + 1 => zjc (zKB bulkOk Tryz.underlying60 c60 c1 (fun _ => rfl) (zxM bulkOk Tryz.underlying9) c1 (fun _ => rfl) (zxM bulkOk Tryz.underlying35)) (fun x => SVar.mk x.1 x.2.1) (fun x => rfl) (fun x => by simp only [sz1]; omega)
theorem yxS (n : Nat) : ReadsAt enc Tryz.prog w Rows.uptoBulk n 23 (fun l : List SVar => [.lst (l.map SVar.cells)]) (fun l => (l.map sz1).sum + 1) := reads_slice' bulkOk Tryz.underlying23 (by rw [c60]; decide) (fun x => by rw [c60]; exact rfl) yji n
theorem yvz : ∀ n, ReadsAt enc Tryz.prog w Rows.uptoBulk n 35 scell sz1
 | 0 => zx6
 | n + 1 => zjc (zxM bulkOk Tryz.underlying35) (fun x => x) (fun x => rfl) (fun x => by simp only [sz1]; omega)
theorem ykj (n : Nat) : ReadsAt enc Tryz.prog w Rows.uptoBulk n 34 (fun l : List (List UInt8) => [.lst (l.map scell)]) (fun l => (l.map sz1).sum + 1) := reads_slice' bulkOk Tryz.underlying34 (by rw [c1]; decide) (fun x => by rw [c1]; exact rfl) yvz n
def szY (s : SSym) : Nat := s.args.length
theorem sum1 {α : Type} : ∀ l : List α, (l.map sz1).sum = l.length
 | [] => rfl
 | _ :: l => by rw [mC, List.sum_cons, sum1 l, lC, sz1, Nat.add_comm]
theorem yjh : ∀ n, ReadsAt enc Tryz.prog w Rows.uptoBulk n 37 SSym.cells szY
 | 0 => zx6
 | n + 1 => zjc (zKC bulkOk Tryz.underlying37 c37 c1 (fun _ => rfl) (zxM bulkOk Tryz.underlying9) c1 (fun _ => rfl) (ykj n) c1 (fun _ => rfl) (zxM bulkOk Tryz.underlying35)) (fun x => SSym.mk x.1 x.2.1 x.2.2.1) (fun x => rfl) (fun x => by have := sum1 x.2.1; simp only [szY]; omega)
theorem rd_syms (n : Nat) : ReadsAt enc Tryz.prog w Rows.uptoBulk n 22 (fun l : List SSym => [.lst (l.map SSym.cells)]) (fun l => (l.map szY).sum + 1) := reads_slice' bulkOk Tryz.underlying22 (by rw [c37]; decide) (fun x => by rw [c37]; exact rfl) yjh n
def szH (h : SHole) : Nat := h.params.length
theorem rd_hole : ∀ n, ReadsAt enc Tryz.prog w Rows.uptoBulk n 32 SHole.cells szH
 | 0 => zx6
 | n + 1 => zjc (zKB bulkOk Tryz.underlying32 c32 c1 (fun _ => rfl) (zxM bulkOk Tryz.underlying9) c1 (fun _ => rfl) (yxS n)) (fun x => SHole.mk x.1 x.2.1) (fun x => rfl) (fun x => by have := sum1 x.2.1; simp only [szH]; omega)
def szQ (q : SQual) : Nat := q.vars.length + q.body.sz
theorem yvy : ∀ n, ReadsAt enc Tryz.prog w Rows.uptoBulk n 29 SQual.cells szQ
 | 0 => zx6
 | n + 1 => zjc (zKC bulkOk Tryz.underlying29 c29 c1 (fun _ => rfl) (zxM bulkOk Tryz.underlying9) c1 (fun _ => rfl) (yxS n) c27 (fun x => Pred.zzu x) (yxR n)) (fun x => SQual.mk x.1 x.2.1 x.2.2.1) (fun x => by simp [SQual.cells]) (fun x => by have := sum1 x.2.1; simp only [szQ]; omega)
theorem rd_quals (n : Nat) : ReadsAt enc Tryz.prog w Rows.uptoBulk n 43 (fun l : List SQual => [.lst (l.map SQual.cells)]) (fun l => (l.map szQ).sum + 1) := reads_slice' bulkOk Tryz.underlying43 (by rw [c29]; decide) (fun x => by rw [c29]; exact SQual.len x) yvy n
theorem rd_sortS (n : Nat) : ReadsAt enc Tryz.prog w Rows.uptoBulk n 35 (fun x : List UInt8 => [.str x]) (fun x => x.length + 1) := zxM bulkOk Tryz.underlying35
theorem gk : Tryz.prog.globalNamed "liquidcheck/names.keywords" = some 0 := by kernel_rfl
theorem gkType : (Tryz.prog.globals[0]?).map (·.type) = some 134 := by kernel_rfl
theorem gkCells : Tryz.prog.cellsOf 134 = 42 := by kernel_rfl
theorem strCells : Tryz.prog.cellsOf 9 = 1 := by kernel_rfl
theorem yw2 : (Rows.laid_liquidcheck_names_keywords (H := Unit)) = strsData kws := by kernel_rfl
theorem zQ6 {r : List (String × DataW Unit)} (h : laidMet Tryz.prog (("liquidcheck/names.keywords", Rows.laid_liquidcheck_names_keywords) :: r) w) : RepCs w (liveS w) 0 0 (kws.map D.str) ∧ ∃ (vs : Array Value) (e : TypeId) (fr : Nat × Nat), w.heap[0]? = some (.cells vs e fr) ∧ vs.size = (kws.map D.str).length := yx4 gk gkType Tryz.underlying134 Tryz.underlying9 strCells gkCells (ss := kws) (rest := r) (by rw [yw2] at h; exact h)
theorem glob0 (hS : w.ShapedOpen Tryz.prog) (h : laidMet Tryz.prog [("liquidcheck/names.keywords", Rows.laid_liquidcheck_names_keywords)] w) : GlobOk Tryz.prog G0 w (liveS w) := by
 have hk := zQ6 h
 have key : ∀ g cs, G0 g = some cs → RepCs w (liveS w) g 0 cs ∧ ∃ (vs : Array Value) (e : TypeId) (fr : Nat × Nat), w.heap[g]? = some (.cells vs e fr) ∧ vs.size = cs.length := by
  intro g cs hg
  unfold G0 at hg
  by_cases h0 : g = 0
  ·subst h0
   rw [if_pos rfl] at hg
   obtain rfl := Option.some.inj hg
   exact hk
  ·rw [if_neg h0] at hg; cases hg
 exact ⟨fun g cs hg => (key g cs hg).1, zKi hS, fun g cs _ hg _ => (key g cs hg).2⟩
def G1 : Nat → Option (List D) := fun g => if g = 0 then some (kws.map .str) else if g = 1 then some (Lib.pow10Tab.map (D.int .u64)) else none
theorem zWw : Tryz.prog.globalNamed "internal/strconv.uint64pow10" = some 1 := by kernel_rfl
theorem yki : (Rows.laid_internal_strconv_uint64pow10 (H := Unit)) = Lib.tabData .u64 Lib.pow10Tab := by kernel_rfl
theorem glob1 (hS : w.ShapedOpen Tryz.prog) (h : laidMet Tryz.prog [("math/bits.deBruijn32tab", Rows.laid_math_bits_deBruijn32tab), ("math/bits.deBruijn64tab", Rows.laid_math_bits_deBruijn64tab), ("internal/strconv.uint64pow10", Rows.laid_internal_strconv_uint64pow10), ("liquidcheck/names.keywords", Rows.laid_liquidcheck_names_keywords)] w) : GlobOk Tryz.prog G1 w (liveS w) := by
 have h2 := zqh (zqh h)
 have hk := zQ6 (zqh h2)
 rw [yki] at h2
 have ht := yks zWw (Lib.tabIs_of_head zWw (by kernel_rfl) Tryz.underlying158 Tryz.underlying147 (by kernel_rfl) (by kernel_rfl) h2)
 have key : ∀ g cs, G1 g = some cs → RepCs w (liveS w) g 0 cs ∧ ∃ (vs : Array Value) (e : TypeId) (fr : Nat × Nat), w.heap[g]? = some (.cells vs e fr) ∧ vs.size = cs.length := by
  intro g cs hg
  unfold G1 at hg
  by_cases h0 : g = 0
  ·subst h0
   rw [if_pos rfl] at hg
   obtain rfl := Option.some.inj hg
   exact hk
  ·rw [if_neg h0] at hg
   by_cases h1 : g = 1
   ·subst h1
    rw [if_pos rfl] at hg
    obtain rfl := Option.some.inj hg
    exact ht
   ·rw [if_neg h1] at hg; cases hg
 exact ⟨fun g cs hg => (key g cs hg).1, zKi hS, fun g cs _ hg _ => (key g cs hg).2⟩
theorem law45G : Law45 (X G1) := law45 G1 rfl fun n h1 h2 => yve zWw (of_decide_eq_true (by kernel_rfl)) ⟨Tryz.f87, Tryz.func87, by kernel_rfl, by kernel_rfl⟩ rfl n ⟨h1, h2⟩
theorem zkq : ∀ {ds : List (DataW H)} {d : DataW H}, Rows.uptoBulkAll ds ≤ 1048576 → d ∈ ds → Rows.uptoBulk d ≤ 1048576
 | [], _, _, h => by cases h
 | x :: ds, d, hs, h => by
  rw [Rows.uptoBulkAll] at hs
  rcases List.mem_cons.1 h with rfl | h
  ·omega
  ·exact zkq (by omega) h
theorem yjk {ds : List (DataW H)} {p : Pred} {d : DataW H} (h : Pred.sz p ≤ Rows.uptoBulk d) (hs : Rows.uptoSmall H ds = true) (hd : d ∈ ds) : p.cnt < 2 ^ 62 := by
 have h1 := Pred.zW5 p
 have h2 := zkq (of_decide_eq_true hs) hd
 omega
theorem yjj {ds : List (DataW H)} {p : Pred} {d : DataW H} (h : Pred.sz p ≤ Rows.uptoBulk d) (hs : Rows.uptoSmall H ds = true) (hd : d ∈ ds) : p.cnt ≤ 1048576 := by
 have h1 := Pred.zW5 p
 have h2 := zkq (of_decide_eq_true hs) hd
 omega
theorem zVe {α : Type} (f : α → Nat) : ∀ {l : List α} {x : α}, x ∈ l → f x ≤ (l.map f).sum
 | a :: l, x, h => by
  rw [mC, List.sum_cons]
  rcases List.mem_cons.1 h with rfl | h
  ·omega
  ·have := zVe f h; omega
theorem yvN {ds : List (DataW H)} {l : List Pred} {d : DataW H} (h : (l.map Pred.sz).sum + 1 ≤ Rows.uptoBulk d) (hs : Rows.uptoSmall H ds = true) (hd : d ∈ ds) : ∀ p ∈ l, p.cnt ≤ 1048576 := by
 intro p hp
 have h1 := Pred.zW5 p
 have h2 := zkq (of_decide_eq_true hs) hd
 have h3 := zVe Pred.sz hp
 omega
theorem yx6 : ∀ l : List Pred, Pred.cnts l ≤ (l.map Pred.sz).sum
 | [] => by simp [Pred.cnts]
 | p :: l => by
  have h1 := Pred.zW5 p
  have h2 := yx6 l
  simp only [Pred.cnts, mC, List.sum_cons]; omega
theorem yvM {ds : List (DataW H)} {l : List Pred} {d : DataW H} (h : (l.map Pred.sz).sum + 1 ≤ Rows.uptoBulk d) (hs : Rows.uptoSmall H ds = true) (hd : d ∈ ds) : Pred.cnts l ≤ 1048576 := by
 have h1 := yx6 l
 have h2 := zkq (of_decide_eq_true hs) hd
 omega
theorem yvJ {ds : List (DataW H)} {x : SHole} {d : DataW H} (h : szH x ≤ Rows.uptoBulk d) (hs : Rows.uptoSmall H ds = true) (hd : d ∈ ds) : x.params.length ≤ 1048576 := Nat.le_trans h (zkq (of_decide_eq_true hs) hd)
theorem yvK {ds : List (DataW H)} {q : SQual} {d : DataW H} (h : szQ q ≤ Rows.uptoBulk d) (hs : Rows.uptoSmall H ds = true) (hd : d ∈ ds) : q.body.cnt ≤ 1048576 := by
 have h1 := Pred.zW5 q.body
 have h2 := zkq (of_decide_eq_true hs) hd
 have h3 : szQ q = q.vars.length + q.body.sz := rfl
 omega
theorem yvw {ds : List (DataW H)} {l : List SQual} {d : DataW H} (h : (l.map szQ).sum + 1 ≤ Rows.uptoBulk d) (hs : Rows.uptoSmall H ds = true) (hd : d ∈ ds) : ∀ q ∈ l, q.body.cnt ≤ 1048576 := by
 intro q hq
 have h1 := Pred.zW5 q.body
 have h2 := zkq (of_decide_eq_true hs) hd
 have h3 : szQ q = q.vars.length + q.body.sz := rfl
 have h4 := zVe szQ hq
 omega
theorem yvO {ds : List (DataW H)} {l : List SSym} {d : DataW H} (h : (l.map szY).sum + 1 ≤ Rows.uptoBulk d) (hs : Rows.uptoSmall H ds = true) (hd : d ∈ ds) : ∀ s ∈ l, Small s.args.length := by
 intro s hs'
 have h2 := zkq (of_decide_eq_true hs) hd
 have h3 : szY s = s.args.length := rfl
 have h4 := zVe szY hs'
 unfold Small
 omega
theorem own : ownKnob Tryz.prog.godebug = none := by kernel_rfl
theorem laidOut : laidOutB Tryz.prog = true := by kernel_rfl
def valsOf : List (DataW Unit) → List Value
 | [] => []
 | .lit (.string s) :: r => .string ⟨s.toArray⟩ :: valsOf r
 | .lit (.int k n) :: r => .int k n :: valsOf r
 | _ :: r => valsOf r
def cellsOfD : DataW Unit → List Value
 | .agg l => valsOf l
 | _ => []
def layAll : Array Obj → List (Nat × DataW Unit) → Array Obj
 | h, [] => h
 | h, (g, d) :: r => layAll (h.modify g fun
   | .cells _ t frozen => .cells (cellsOfD d).toArray t frozen
   | o => o) r
noncomputable def laidWorld (os : Os) : World :=
 { World.holding Tryz.prog os ⟨#[], #[], []⟩ with heap := layAll (World.holding Tryz.prog os ⟨#[], #[], []⟩).heap [(0, Rows.laid_liquidcheck_names_keywords), (1, Rows.laid_internal_strconv_uint64pow10), (2, Rows.laid_math_bits_deBruijn32tab), (3, Rows.laid_math_bits_deBruijn64tab)] }
end Go.Abs.Seat
end

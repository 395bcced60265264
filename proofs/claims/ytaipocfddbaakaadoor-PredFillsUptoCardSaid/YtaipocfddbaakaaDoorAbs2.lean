/-
  A LIBRARY OF THE PROOF: an abstract machine over the texts of the translated functions, whose values are plain data, proved sound with regard to the kit's law of calls.
-/
import Derived.OrdersIn
import Derived.Test.YtaipocfddbaakaaDoorAbs1
section
set_option linter.unusedSimpArgs false
set_option linter.unusedVariables false
set_option linter.unusedSectionVars false
namespace Go.Abs
open Go.RowKit
variable {c : Ctx} {st : St} {tmps : Array Value} {w : World} {S : Safe} {ρ : Rho}

/-! ## contracts -/
mutual
def RepC (w : World) (S : Safe) : CV → Value → Prop
  | .one x, v => Rep w S x v
  | .agg xs, v => ∃ vs : Array Value, v = .agg vs ∧ RepL w S xs vs.toList
  | .own _ _ es, v => Rep w S (.lst es) v
  | .tup cs, v => ∃ vs : Array Value, v = .tuple vs ∧ RepCL w S cs vs.toList
def RepCL (w : World) (S : Safe) : List CV → List Value → Prop
  | [], vs => vs = []
  | x :: xs, vs => ∃ v r, vs = v :: r ∧ RepC w S x v ∧ RepCL w S xs r
end
def Live (w : World) (S : Safe) : Prop := ∀ b o, S b o → ∃ v, w.cell? ⟨b, o, none⟩ = some v
def GlobOk (P : Program) (G : Nat → Option (List D)) (w : World) (S : Safe) : Prop := (∀ g cs, G g = some cs → RepCs w S g 0 cs) ∧ Exact P G w
def Enters (P : Program) (f : FuncId) : Prop := ∃ fn, P.funcs[f]? = some fn ∧ (fn.name == "runtime.NumGoroutine") = false ∧ fn.body.isNone = false
/-- The function f, called with these data, returns that datum; what was there is as it was. -/
def EvD (P : Program) (G : Nat → Option (List D)) (f : FuncId) (args : List CV) (r : CV) : Prop :=
  Enters P f ∧ ∀ (w : World) (S : Safe) (cargs : Array Value), Live w S → GlobOk P G w S → RepCL w S args cargs.toList →
    Calls P f cargs w fun e w' => ∃ v S', e = .returned v ∧ RepC w' S' r v ∧ Below w.heap.size w w' ∧ (∀ b o, S b o → S' b o) ∧ (∀ b o, S' b o → S b o ∨ w.heap.size ≤ b) ∧ Live w' S'
/-- what may be written: new blocks, and those that are handed on -/
def OwnX (P : Program) (w : World) (X : List Nat) (b : Nat) : Prop := w.heap.size ≤ b ∨ (b ∈ X ∧ P.globals.size ≤ b)
/-- a slice that is full, or has room of its own behind it -/
def Room (own : Nat → Prop) (w : World) (S : Safe) (sz : Nat) (v : Value) : Prop :=
  ∃ base n cap, v = .slice base n cap ∧ (n = cap ∨ ∃ b, base = some ⟨b, 0, none⟩ ∧ own b ∧ (∃ cur e, w.heap[b]? = some (.cells cur e (0, 0)) ∧ cur.size = cap * sz) ∧ n ≤ cap ∧ cap ≤ 9223372036854775807 ∧ ∀ o, n * sz ≤ o → ¬ S b o)
/-- the argument that is used up -/
def TakesX (P : Program) (w : World) (S : Safe) (X : List Nat) (args : List CV) (cargs : List Value) (sz : Nat) : Option Nat → Prop
  | none => X = []
  | some k => ∃ es v, args[k]? = some (.one (.lst es)) ∧ (∀ e ∈ es, e.length = sz) ∧ cargs[k]? = some v ∧ Room (fun b => X = [b] ∧ P.globals.size ≤ b) w S sz v
/-- The function f, called with these data, returns that slice, with room of its own; the argument a is used up for it. -/
def EvOwn (P : Program) (G : Nat → Option (List D)) (f : FuncId) (args : List CV) (a : Option Nat) (sz : Nat) (es : List (List D)) : Prop :=
  Enters P f ∧ ∀ (w : World) (S : Safe) (cargs : Array Value) (X : List Nat), Live w S → GlobOk P G w S → RepCL w S args cargs.toList → TakesX P w S X args cargs.toList sz a →
    Calls P f cargs w fun e w' => ∃ v S', e = .returned v ∧ Rep w' S' (.lst es) v ∧ (∀ e ∈ es, e.length = sz) ∧ Room (OwnX P w X) w' S' sz v ∧ BelowO (OwnX P w X) w w' ∧ Keeps w S w' S' ∧ (∀ b o, S' b o → S b o ∨ OwnX P w X b) ∧ Live w' S'
def Ev (P : Program) (G : Nat → Option (List D)) (f : FuncId) (args : List CV) : CV → Prop
  | .own a sz es => EvOwn P G f args a sz es
  | .one x => EvD P G f args (.one x)
  | .agg x => EvD P G f args (.agg x)
  | .tup x => EvD P G f args (.tup x)
def CV.isOwn : CV → Bool
  | .own _ _ _ => true
  | _ => false
theorem Ev.enters {P : Program} {G : Nat → Option (List D)} {f : FuncId} {args : List CV} {r : CV} (h : Ev P G f args r) : Enters P f := by
  cases r <;> exact h.1
theorem Ev.data {P : Program} {G : Nat → Option (List D)} {f : FuncId} {args : List CV} {r : CV} (hr : r.isOwn = false) (h : Ev P G f args r) : EvD P G f args r := by
  cases r with
  | own a sz es => cases hr
  | one x => exact h
  | agg x => exact h
  | tup x => exact h

mutual
theorem RepC.toAV : ∀ {r : CV} {v : Value}, RepC w S r v → RepA w S ρ r.toAV0 v
  | .one _, _, h => h
  | .agg _, _, ⟨vs, h1, h2⟩ => ⟨vs, h1, RepL.toAs h2⟩
  | .own _ _ _, _, h => h
  | .tup _, _, ⟨vs, h1, h2⟩ => ⟨vs, h1, RepCL.toAVs h2⟩
theorem RepCL.toAVs : ∀ {rs : List CV} {vs : List Value}, RepCL w S rs vs → RepAs w S ρ (CV.toAV0s rs) vs
  | [], _, h => h
  | _ :: _, _, ⟨v, r, h, h1, h2⟩ => ⟨v, r, h, RepC.toAV h1, RepCL.toAVs h2⟩
end
theorem RepCL.append : ∀ {as bs : List CV} {l k : List Value}, RepCL w S as l → RepCL w S bs k → RepCL w S (as ++ bs) (l ++ k)
  | [], _, _, _, h, h' => by simp only [RepCL] at h; subst h; simpa using h'
  | _ :: _, _, _, _, ⟨v, r, h, h1, h2⟩, h' => by subst h; exact ⟨v, _, rfl, h1, RepCL.append h2 h'⟩
theorem RepL.toCL : ∀ {ds : List D} {l : List Value}, RepL w S ds l → RepCL w S (ds.map .one) l
  | [], _, h => h
  | _ :: _, _, ⟨v, r, h, h1, h2⟩ => ⟨v, r, h, h1, RepL.toCL h2⟩
theorem toCV_rep {m : Mem} (hm : Through w S ρ m) (n : Nat) {a : AV} {v : Value} {r : CV} (h : RepA w S ρ a v) (hr : a.toCV m n = some r) : RepC w S r v := by
  cases a with
  | agg cs =>
    simp only [AV.toCV] at hr
    split at hr
    · rename_i xs hxs; cases hr
      obtain ⟨vs, h1, h2⟩ := h
      exact ⟨vs, h1, toDs_rep hm n h2 hxs⟩
    · cases hr
  | _ =>
    simp only [AV.toCV] at hr
    split at hr
    · rename_i x hx; cases hr; exact toD_rep hm n _ _ _ h hx
    · cases hr
theorem toCVs_rep {m : Mem} (hm : Through w S ρ m) (n : Nat) : ∀ {as : List AV} {l : List Value} {rs : List CV}, RepAs w S ρ as l → toCVs m n as = some rs → RepCL w S rs l
  | [], _, rs, h, hx => by simp [toCVs] at hx; subst hx; exact h
  | a :: as, _, rs, ⟨v, r, h, h1, h2⟩, hx => by
    simp only [toCVs] at hx
    split at hx
    · rename_i y ys hy hys
      cases hx
      exact ⟨v, r, h, toCV_rep hm n h1 hy, toCVs_rep hm n h2 hys⟩
    · cases hx

/-! ## what is left of the operations -/
theorem trXs_len : ∀ {xs : List Operand} {xs' : List X}, trXs xs = some xs' → xs'.length = xs.length
  | [], xs', h => by simp [trXs] at h; subst h; rfl
  | x :: xs, xs', h => by
    simp only [trXs, List.mapM_cons, Option.bind_eq_bind, Option.bind_eq_some_iff, Option.pure_def, Option.some.injEq] at h
    obtain ⟨a, ha, as, has, rfl⟩ := h
    simp [trXs_len has]

/-- a literal slice's parts, laid into the row one behind the other -/
theorem fill_seq {esz : Nat} : ∀ {as : List AV} {vs : List Value} {es : List (List D)} (k : Nat) {cells : Array Value} {pre : List (List D)}, RepAs w S ρ as vs → toElems esz as = some es → cells.size = (k + vs.length) * esz → RepL w S pre.flatten (cells.toList.take (k * esz)) →
    ∃ cells', Instr.fill (fun i => some (i * esz, esz)) cells ((vs.zipIdx k).map fun p => (p.2, p.1)) = some cells' ∧ cells'.size = cells.size ∧ RepL w S (pre ++ es).flatten cells'.toList
  | [], vs, es, k, cells, pre, h, he, hs, hp => by
    simp only [RepAs] at h; subst h
    simp only [toElems, Option.some.injEq] at he; subst he
    refine ⟨cells, rfl, rfl, ?_⟩
    rw [List.append_nil]
    have : cells.toList.take (k * esz) = cells.toList := List.take_of_length_le (by simp at hs ⊢; omega)
    rw [this] at hp
    exact hp
  | a :: as, vs, es, k, cells, pre, ⟨v, r, hv, h1, h2⟩, he, hs, hp => by
    subst hv
    simp only [toElems] at he
    split at he
    · rename_i x xs hx hxs
      split at he
      · rename_i hlen
        cases he
        have hcells : RepL w S x v.cells.toList := by
          have hne : a ≠ .undef := by rintro rfl; simp [AV.cells, toDs, AV.toD] at hx
          have hnc : ∀ g y, a ≠ .cond g y := by rintro g y rfl; simp [AV.cells, toDs, AV.toD] at hx
          exact toDs_rep through_nil 1 (cells_rep h1 hne hnc) hx
        have l1 : v.cells.size = esz := by have := RepL.length hcells; simp at this; omega
        simp only [List.zipIdx_cons, List.map_cons, Instr.fill]
        have hfit : k * esz + v.cells.size ≤ cells.size := by
          rw [hs, l1, List.length_cons, Nat.add_mul, Nat.add_mul]; omega
        rw [if_neg (by simp [l1]; rw [l1] at hfit; omega)]
        have hf := foldl_set v.cells (k * esz) cells hfit
        have hsz : (v.cells.zipIdx.foldl (fun (cs : Array Value) (p : Value × Nat) => cs.setIfInBounds (k * esz + p.2) p.1) cells).size = cells.size := by
          rw [← Array.length_toList, hf]; simp; omega
        obtain ⟨cells', g1, g2, g3⟩ := fill_seq (k + 1) (cells := v.cells.zipIdx.foldl (fun (cs : Array Value) (p : Value × Nat) => cs.setIfInBounds (k * esz + p.2) p.1) cells) (pre := pre ++ [x]) h2 hxs (by
          rw [hsz, hs, List.length_cons]; congr 1; omega) (by
          rw [hf, Nat.succ_mul]
          have t1 : (cells.toList.take (k * esz)).length = k * esz := by simp; omega
          rw [List.append_assoc, List.take_append, List.take_of_length_le (by rw [t1]; omega), t1]
          rw [show k * esz + esz - k * esz = v.cells.toList.length by simp [l1]]
          rw [List.take_left]
          rw [List.flatten_append, List.flatten_cons, List.flatten_nil, List.append_nil]
          exact RepL.append hp hcells)
        refine ⟨cells', g1, g2.trans hsz, ?_⟩
        simpa using g3
      · cases he
    · cases he

theorem ok_bsl (h : Sim c st tmps w S ρ) {o : Oper} {t : TypeId} {esz eb n : Nat} (ht : chkTy c.P t (.slice esz eb) = true) {parts : Array (Nat × Operand)} {xs : List X} {ds : List Deferred}
    (ho : o.op = .buildSlice t n parts) (hp : parts.toList.map (·.1) = List.range n) (hx : trXs (parts.toList.map (·.2)) = some xs) (hg : gds st xs = true) {es : List (List D)} (hr : toElems esz (evs st xs) = some es) (hsmall : n * esz ≤ 2 ^ 24) :
    ∃ cv w' S', (execOp (Act.eval ⟨tmps, ds⟩) o).run c.P w = .ok (.value cv) w' ∧ Sim c st tmps w' S' ρ ∧ RepA w' S' ρ (.full es) cv := by
  obtain ⟨e, ie, z, hu, hie, q1, q2, q3, q4, q5⟩ := slice_facts ht
  have hvs := h.evs (ds := ds) hx hg
  have hlen : parts.size = n := by have := congrArg List.length hp; simpa using this
  have hparts : (parts.map fun x => (x.1, Act.eval ⟨tmps, ds⟩ x.2)).toList = ((((parts.toList.map (·.2)).map (Act.eval ⟨tmps, ds⟩)).zipIdx 0).map fun p => (p.2, p.1)) := by
    apply List.ext_getElem?
    intro i
    simp only [Array.toList_map, List.getElem?_map, List.getElem?_zipIdx]
    have hi : (parts.toList.map (·.1))[i]? = (List.range n)[i]? := by rw [hp]
    simp only [List.getElem?_map, List.getElem?_range] at hi
    cases hpi : parts.toList[i]? with
    | none => simp
    | some p =>
      simp only [hpi, Option.map_some] at hi ⊢
      have hin : i < n := by
        have := (List.getElem?_eq_some_iff.1 hpi).1
        simp at this; omega
      simp [hin] at hi
      simp [hi]
  generalize hz0 : (if n * esz = 0 then (#[] : Array Value) else z.cells) = z0
  have hcells0 : ((Array.range (n * esz)).map (z0[· % z0.size]!)).size = (0 + ((parts.toList.map (·.2)).map (Act.eval ⟨tmps, ds⟩)).length) * esz := by simp [hlen]
  obtain ⟨cells', g1, g2, g3⟩ := fill_seq (w := w) (S := S) (ρ := ρ) (esz := esz) 0 (pre := []) hvs hr hcells0 (by simp [RepL])
  have helen : es.length = n := by
    have : ∀ (as : List AV) (es : List (List D)), toElems esz as = some es → es.length = as.length := by
      intro as
      induction as with
      | nil => intro es he; simp [toElems] at he; subst he; rfl
      | cons a as ih =>
        intro es he
        simp only [toElems] at he
        split at he
        · split at he
          · cases he; simp [ih _ ‹_›]
          · cases he
        · cases he
    rw [this _ _ hr]
    have h1 := RepAs.length hvs
    simp only [List.length_map, Array.length_toList] at h1
    omega
  have hall : ∀ e ∈ es, e.length = esz := by
    have : ∀ (as : List AV) (es : List (List D)), toElems esz as = some es → ∀ e ∈ es, e.length = esz := by
      intro as
      induction as with
      | nil => intro es he; simp [toElems] at he; subst he; simp
      | cons a as ih =>
        intro es he
        simp only [toElems] at he
        split at he
        · split at he
          · rename_i hl; cases he
            intro e' he'
            rcases List.mem_cons.1 he' with rfl | he'
            · exact hl
            · exact ih _ ‹_› e' he'
          · cases he
        · cases he
    exact this _ _ hr
  have hcs : cells'.size = n * esz := by rw [g2]; simp
  have hs := h.newRow cells' e
  refine ⟨.slice (some ⟨w.heap.size, 0, none⟩) n n, _, _, ?_, hs, ?_, _, n, rfl⟩
  · unfold execOp
    simp only [ho]
    have hnot : ¬ n * ie.size > 2 ^ 24 := by rw [q1]; omega
    simp only [Instr.buildSlice, Sem.run_bind, run_underlying hu, Result.andThen_ok, run_sizeOf hie]
    rw [if_neg hnot]
    simp only [Sem.run_bind, Sem.run_pure, Result.andThen_ok]
    rw [q1, hparts]
    by_cases h0 : n * esz = 0
    · have hz1 : z0 = #[] := by rw [← hz0, if_pos h0]
      subst hz1
      rw [if_pos h0]
      simp only [Sem.run_bind, Sem.run_pure, Result.andThen_ok]
      rw [g1]
      simp [newRow]
    · have hz1 : z0 = z.cells := by rw [← hz0, if_neg h0]
      subst hz1
      rw [if_neg h0]
      simp only [Sem.run_bind, Sem.run_pure, Result.andThen_ok, run_zero hie q4]
      rw [g1]
      simp [newRow]
  · have hk : Keeps w S (w.alloc (.cells cells' e)) (fun b o => S b o ∨ (b = w.heap.size ∧ o < cells'.size)) := fun b o hso => by
      obtain ⟨v, hv⟩ := h.live b o hso
      exact ⟨.inl hso, (cell_alloc_old hv).trans hv.symm⟩
    have hl := RepL.keep hk _ _ g3
    simp only [List.nil_append] at hl
    have := rep_lst_row (cap := n) hall hl (b := w.heap.size) (fun j v hj => by
      have hj' : j < cells'.size := by have := (List.getElem?_eq_some_iff.1 hj).1; simpa using this
      refine ⟨?_, .inr ⟨rfl, hj'⟩⟩
      simp only [World.cell?_alloc_new]
      simpa using hj) (by omega) (by
        have : n ≤ n * esz := Nat.le_mul_of_pos_right _ (by omega)
        omega)
    rw [helen] at this
    exact this

/-! ## texts and array values -/
theorem str_facts {P : Program} {t : TypeId} {s : List UInt8} (ht : chkTy P t (.cell (.d (.str s))) = true) : P.underlying t = some .string := by
  simp only [chkTy, Bool.and_eq_true, undOk] at ht
  have := ht.1.1
  split at this <;> simp_all
theorem ok_sidx (h : Sim c st tmps w S ρ) {o : Oper} {t : TypeId} (ht : chkTy c.P t (.cell (.d (.str []))) = true) {x y : Operand} {x' y' : X} {ds : List Deferred}
    (ho : o.op = .index t x y) (hx : trX x = some x') (hy : trX y = some y') (hg : gd st x' = true) (hg' : gd st y' = true) {s : List UInt8} {k : IntKind} {n : Int} (hs : ev st x' = .d (.str s)) (hn : ev st y' = .d (.int k n)) (hob : 0 ≤ n ∧ n < s.length) :
    ∃ cv, (execOp (Act.eval ⟨tmps, ds⟩) o).run c.P w = .ok (.value cv) w ∧ RepA w S ρ (.d (.int .u8 ((s.getD n.toNat 0).toNat : Nat))) cv := by
  have e1 := h.ev hx hg (ds := ds)
  have e2 := h.ev hy hg' (ds := ds)
  rw [hs] at e1
  rw [hn] at e2
  obtain ⟨b, hv, rfl, _⟩ := e1
  have e2 : Act.eval ⟨tmps, ds⟩ y = .int k n := e2
  have hsz : b.size = b.data.toList.length := by simp
  have hi : 0 ≤ n ∧ n < b.size := by rw [hsz]; exact hob
  refine ⟨.int .u8 ((b.data.toList.getD n.toNat 0).toNat : Nat), ?_, rfl⟩
  unfold execOp
  simp only [ho, hv, e2]
  have := run_index_string (P := c.P) (w := w) t b k n (str_facts ht)
  rw [dif_pos hi] at this
  have hlt : n.toNat < b.size := by omega
  have hget : b[n.toNat] = b.data.toList.getD n.toNat 0 := by
    rw [List.getD_eq_getElem?_getD, List.getElem?_eq_getElem (by simp; omega)]
    rfl
  rw [hget] at this
  simp [this]
theorem ok_aidx (h : Sim c st tmps w S ρ) {o : Oper} {t : TypeId} {m : Nat} {zs : List AV} (ht : chkTy c.P t (.arr m 1 false zs) = true) {x y : Operand} {x' y' : X} {ds : List Deferred}
    (ho : o.op = .index t x y) (hx : trX x = some x') (hy : trX y = some y') (hg : gd st x' = true) (hg' : gd st y' = true) {cs : List AV} {k : IntKind} {n : Int} (hs : ev st x' = .agg cs) (hn : ev st y' = .d (.int k n)) (hob : (0 ≤ n ∧ n < m) ∧ n < cs.length) :
    ∃ cv, (execOp (Act.eval ⟨tmps, ds⟩) o).run c.P w = .ok (.value cv) w ∧ RepA w S ρ (cs.getD n.toNat .undef) cv := by
  have e1 := h.ev hx hg (ds := ds)
  have e2 := h.ev hy hg' (ds := ds)
  rw [hs] at e1
  rw [hn] at e2
  obtain ⟨vs, hv, hr⟩ := e1
  have e2 : Act.eval ⟨tmps, ds⟩ y = .int k n := e2
  simp only [chkTy] at ht
  split at ht
  · rename_i m' e i hu hi
    simp only [Bool.and_eq_true] at ht
    obtain ⟨⟨⟨⟨⟨hm, _⟩, _⟩, he⟩, hna⟩, hsome⟩ := ht
    have hm : m' = m := by simpa using hm
    subst hm
    split at he
    · rename_i ie hie
      have he : ie.size = 1 := by simpa using he
      have hag : (isAgg e).run c.P w = .ok false w := run_isAgg w (by simpa using hna) hsome
      have hlen := RepAs.length hr
      have hlt : n.toNat < vs.size := by simp at hlen; omega
      obtain ⟨v, hv1, hv2⟩ : ∃ v, vs[n.toNat]? = some v ∧ RepA w S ρ (cs.getD n.toNat .undef) v := by
        have h2 : n.toNat < cs.length := by omega
        have : ∀ {as : List AV} {l : List Value} (i : Nat), RepAs w S ρ as l → i < as.length → ∃ v, l[i]? = some v ∧ RepA w S ρ (as.getD i .undef) v := by
          intro as
          induction as with
          | nil => intro l i _ h; simp at h
          | cons a as ih =>
            rintro l i ⟨v, r, rfl, h1, h2⟩ hi
            cases i with
            | zero => exact ⟨v, rfl, h1⟩
            | succ i => exact ih i h2 (by simpa using hi)
        obtain ⟨v, h3, h4⟩ := this n.toNat hr h2
        exact ⟨v, by simpa using h3, h4⟩
      refine ⟨v, ?_, hv2⟩
      unfold execOp
      simp only [ho, hv, e2]
      simp [Instr.index, asIntOf, run_underlying hu, hob.1, run_sizeOf hie, he, part, hag, hv1]
    · cases he
  · cases ht
theorem ok_sfrom (h : Sim c st tmps w S ρ) {o : Oper} {t : TypeId} (ht : chkTy c.P t (.cell (.d (.str []))) = true) {x y : Operand} {x' y' : X} {ds : List Deferred}
    (ho : o.op = .slice t x (some y) none none) (hx : trX x = some x') (hy : trX y = some y') (hg : gd st x' = true) (hg' : gd st y' = true) {s : List UInt8} {k : IntKind} {n : Int} (hs : ev st x' = .d (.str s)) (hn : ev st y' = .d (.int k n)) (hob : 0 ≤ n ∧ n ≤ s.length) :
    ∃ cv, (execOp (Act.eval ⟨tmps, ds⟩) o).run c.P w = .ok (.value cv) w ∧ RepA w S ρ (.d (.str (s.drop n.toNat))) cv := by
  have e1 := h.ev hx hg (ds := ds)
  have e2 := h.ev hy hg' (ds := ds)
  rw [hs] at e1
  rw [hn] at e2
  obtain ⟨b, hv, rfl, hb⟩ := e1
  have e2 : Act.eval ⟨tmps, ds⟩ y = .int k n := e2
  have hsz : b.size = b.data.toList.length := by simp
  refine ⟨.string (b.extract n.toNat b.size), ?_, _, rfl, ?_, ?_⟩
  · unfold execOp
    simp only [ho, hv, e2]
    simp [Instr.sliceAt, Instr.slice, run_underlying (str_facts ht), Instr.sliceBounds, run_sliceBound, e2, hob.1, (by rw [hsz]; exact hob.2 : n ≤ (b.size : Int))]
  · simp [ByteArray.data_extract]; exact List.take_of_length_le (by simp)
  · simp [ByteArray.size_extract]; omega
theorem ok_sto (h : Sim c st tmps w S ρ) {o : Oper} {t : TypeId} (ht : chkTy c.P t (.cell (.d (.str []))) = true) {x z : Operand} {y : Option Operand} {x' y' z' : X} {ds : List Deferred}
    (ho : o.op = .slice t x y (some z) none) (hx : trX x = some x') (hy : (∃ y0, y = some y0 ∧ trX y0 = some y') ∨ (y = none ∧ y' = .c (.d (.int .i64 0)))) (hz : trX z = some z') (hg : gd st x' = true) (hg' : gd st y' = true) (hg'' : gd st z' = true)
    {s : List UInt8} {k k' : IntKind} {l m : Int} (hs : ev st x' = .d (.str s)) (hl : ev st y' = .d (.int k l)) (hm : ev st z' = .d (.int k' m)) (hob : 0 ≤ l ∧ l ≤ m ∧ m ≤ s.length) :
    ∃ cv, (execOp (Act.eval ⟨tmps, ds⟩) o).run c.P w = .ok (.value cv) w ∧ RepA w S ρ (.d (.str ((s.take m.toNat).drop l.toNat))) cv := by
  have e1 := h.ev hx hg (ds := ds)
  have e3 := h.ev hz hg'' (ds := ds)
  rw [hs] at e1
  rw [hm] at e3
  obtain ⟨b, hv, rfl, hb⟩ := e1
  have e3 : Act.eval ⟨tmps, ds⟩ z = .int k' m := e3
  have hsz : b.size = b.data.toList.length := by simp
  have hmb : m ≤ (b.size : Int) := by rw [hsz]; exact hob.2.2
  refine ⟨.string (b.extract l.toNat m.toNat), ?_, _, rfl, ?_, ?_⟩
  · unfold execOp
    rcases hy with ⟨y0, rfl, hy⟩ | ⟨rfl, rfl⟩
    · have e2 := h.ev hy hg' (ds := ds)
      rw [hl] at e2
      have e2 : Act.eval ⟨tmps, ds⟩ y0 = .int k l := e2
      simp only [ho, hv, e3, Option.map_some, e2]
      simp [Instr.sliceAt, Instr.slice, run_underlying (str_facts ht), Instr.sliceBounds, run_sliceBound, hob.1, (by omega : 0 ≤ m), hmb, Int.toNat_of_nonneg (by omega : 0 ≤ m), hob.2.1]
    · simp only [ev, ev0, AV.strip, AV.d.injEq, D.int.injEq] at hl
      obtain ⟨_, rfl⟩ := hl
      simp only [ho, hv, e3]
      simp [Instr.sliceAt, Instr.slice, run_underlying (str_facts ht), Instr.sliceBounds, run_sliceBound, e3, (by omega : 0 ≤ m), hmb]
  · simp [ByteArray.data_extract, List.drop_take]
  · simp [ByteArray.size_extract]; omega
theorem RepEs.drop {sz : Nat} : ∀ {es : List (List D)} {b o : Nat} (n : Nat), (∀ e ∈ es, e.length = sz) → RepEs w S b o es → RepEs w S b (o + n * sz) (es.drop n)
  | [], _, _, n, _, _ => by simp [RepEs]
  | e :: es, b, o, 0, _, h => by simpa using h
  | e :: es, b, o, n + 1, hl, h => by
    have h2 := RepEs.drop (es := es) n (fun e he => hl e (by simp [he])) h.2
    rw [hl e (by simp)] at h2
    have e1 : o + (n + 1) * sz = o + sz + n * sz := by rw [Nat.succ_mul]; omega
    rw [e1]
    exact h2
theorem RepEs.take : ∀ {es : List (List D)} {b o : Nat} (n : Nat), RepEs w S b o es → RepEs w S b o (es.take n)
  | [], _, _, n, _ => by simp [RepEs]
  | e :: es, b, o, 0, h => by simp [RepEs]
  | e :: es, b, o, n + 1, h => ⟨h.1, RepEs.take n h.2⟩
theorem sliced_rep {es : List (List D)} {esz n cap : Nat} {base : Option Addr} (hr : Rep w S (.lst es) (.slice base n cap)) (hl : ∀ e ∈ es, e.length = esz) {l m : Nat} (h1 : l ≤ m) (h2 : m ≤ es.length) :
    n = es.length ∧ n ≤ cap ∧ Rep w S (.lst ((es.take m).drop l)) (sliced base l m cap esz) := by
  obtain ⟨base', cap', hv, hc1, hc2, hc3, hc4⟩ := hr
  cases hv
  refine ⟨rfl, hc1, (if cap = l then base else base.map (·.add (l * esz))), cap - l, ?_, ?_, ?_, ?_, ?_⟩
  · simp only [sliced, List.length_drop, List.length_take, Nat.min_eq_left h2]
  · simp only [List.length_drop, List.length_take, Nat.min_eq_left h2]; omega
  · omega
  · intro h
    split at h
    · omega
    · have : base = none := by simpa using h
      have := hc3 this; omega
  · intro a ha
    have hsz : ∃ sz, ∀ e ∈ (es.take m).drop l, e.length = sz := ⟨esz, fun e he => hl e (List.mem_of_mem_take (List.mem_of_mem_drop he))⟩
    split at ha
    · rename_i hcl
      have hnil : (es.take m).drop l = [] := by
        apply List.drop_of_length_le
        simp; omega
      exact ⟨fun h => by omega, hsz, by rw [hnil]; trivial⟩
    · cases base with
      | none => cases ha
      | some a0 =>
        obtain ⟨hsp, _, hes⟩ := hc4 a0 rfl
        have hsp := hsp (by omega)
        obtain ⟨b, off, sp⟩ := a0
        simp only at hsp hes
        subst hsp
        simp only [Option.map_some, addr_add, Option.some.injEq] at ha
        subst ha
        exact ⟨fun _ => rfl, hsz, RepEs.drop l (fun e he => hl e (List.mem_of_mem_take he)) (RepEs.take m hes)⟩
theorem ok_lfrom (h : Sim c st tmps w S ρ) {o : Oper} {t : TypeId} {esz eb : Nat} (ht : chkTy c.P t (.slice esz eb) = true) {x y : Operand} {x' y' : X} {ds : List Deferred}
    (ho : o.op = .slice t x (some y) none none) (hx : trX x = some x') (hy : trX y = some y') (hg : gd st x' = true) (hg' : gd st y' = true) {es : List (List D)} {k : IntKind} {n : Int} (hs : (ev st x').elems = some es) (hn : ev st y' = .d (.int k n)) (hob : (0 ≤ n ∧ n ≤ es.length) ∧ ∀ e ∈ es, e.length = esz) :
    ∃ cv, (execOp (Act.eval ⟨tmps, ds⟩) o).run c.P w = .ok (.value cv) w ∧ RepA w S ρ (.d (.lst (es.drop n.toNat))) cv := by
  have e1 := elems_rep (h.ev hx hg (ds := ds)) hs
  have e2 := h.ev hy hg' (ds := ds)
  rw [hn] at e2
  have e2 : Act.eval ⟨tmps, ds⟩ y = .int k n := e2
  obtain ⟨e, ie, z, hu, hie, h1, _, h3, _⟩ := slice_facts ht
  have e1' := e1
  obtain ⟨base, cap, hv, hc1, _⟩ := e1'
  rw [hv] at e1
  have hel : es.length = es.length := rfl
  obtain ⟨_, _, hrep⟩ := sliced_rep e1 hob.2 (l := n.toNat) (m := es.length) (by omega) (Nat.le_refl _)
  rw [List.take_length] at hrep
  refine ⟨_, ?_, hrep⟩
  unfold execOp
  simp only [ho, hv, e2]
  simp [Instr.sliceAt, Instr.slice, run_underlying hu, Instr.sliceBounds, run_sliceBound, e2, hob.1.1, hob.1.2, run_sizeOf hie, h1, sliced]
theorem ok_lto (h : Sim c st tmps w S ρ) {o : Oper} {t : TypeId} {esz eb : Nat} (ht : chkTy c.P t (.slice esz eb) = true) {x z : Operand} {y : Option Operand} {x' y' z' : X} {ds : List Deferred}
    (ho : o.op = .slice t x y (some z) none) (hx : trX x = some x') (hy : (∃ y0, y = some y0 ∧ trX y0 = some y') ∨ (y = none ∧ y' = .c (.d (.int .i64 0)))) (hz : trX z = some z') (hg : gd st x' = true) (hg' : gd st y' = true) (hg'' : gd st z' = true)
    {es : List (List D)} {k k' : IntKind} {l m : Int} (hs : (ev st x').elems = some es) (hl : ev st y' = .d (.int k l)) (hm : ev st z' = .d (.int k' m)) (hob : (0 ≤ l ∧ l ≤ m ∧ m ≤ es.length) ∧ ∀ e ∈ es, e.length = esz) :
    ∃ cv, (execOp (Act.eval ⟨tmps, ds⟩) o).run c.P w = .ok (.value cv) w ∧ RepA w S ρ (.d (.lst ((es.take m.toNat).drop l.toNat))) cv := by
  have e1 := elems_rep (h.ev hx hg (ds := ds)) hs
  have e3 := h.ev hz hg'' (ds := ds)
  rw [hm] at e3
  have e3 : Act.eval ⟨tmps, ds⟩ z = .int k' m := e3
  obtain ⟨e, ie, zz, hu, hie, h1, _, h3, _⟩ := slice_facts ht
  have e1' := e1
  obtain ⟨base, cap, hv, hc1, _⟩ := e1'
  rw [hv] at e1
  obtain ⟨_, _, hrep⟩ := sliced_rep e1 hob.2 (l := l.toNat) (m := m.toNat) (by omega) (by omega)
  have hmc : m ≤ (cap : Int) := by omega
  have hm0 : 0 ≤ m := by omega
  refine ⟨_, ?_, hrep⟩
  unfold execOp
  rcases hy with ⟨y0, rfl, hy⟩ | ⟨rfl, rfl⟩
  · have e2 := h.ev hy hg' (ds := ds)
    rw [hl] at e2
    have e2 : Act.eval ⟨tmps, ds⟩ y0 = .int k l := e2
    simp only [ho, hv, e3, Option.map_some, e2]
    simp [Instr.sliceAt, Instr.slice, run_underlying hu, Instr.sliceBounds, run_sliceBound, hob.1.1, hm0, hmc, Int.toNat_of_nonneg hm0, hob.1.2.1, run_sizeOf hie, h1, sliced]
  · simp only [ev, ev0, AV.strip, AV.d.injEq, D.int.injEq] at hl
    obtain ⟨_, rfl⟩ := hl
    simp only [ho, hv, e3]
    simp [Instr.sliceAt, Instr.slice, run_underlying hu, Instr.sliceBounds, run_sliceBound, e3, hm0, hmc, run_sizeOf hie, h1, sliced]
end Go.Abs
end
section
set_option linter.unusedSimpArgs false
set_option linter.unusedVariables false
set_option linter.unusedSectionVars false
namespace Go.Abs
open Go.RowKit
open Go.Maps (Keyed)
variable {c : Ctx} {st : St} {tmps : Array Value} {w : World} {S : Safe} {ρ : Rho}

theorem map_facts {P : Program} {t k e : Nat} {kz ez : D} (h : chkTy P t (.map k e kz ez) = true) :
    P.underlying t = some (.map k e) ∧ flatU P k kz = true ∧ flatU P e ez = true ∧ ∃ ie v, P.info? e = some ie ∧ ie.zero = some v ∧ ∀ (w : World) (S : Safe), Rep w S ez v := by
  simp only [chkTy, Bool.and_eq_true] at h
  obtain ⟨⟨h1, h2⟩, h⟩ := h
  split at h
  · rename_i k' e' i ie hu hi hie
    simp only [Bool.and_eq_true, beq_iff_eq] at h
    obtain ⟨⟨⟨⟨rfl, rfl⟩, _⟩, _⟩, h3⟩ := h
    refine ⟨hu, h1, h2, ie, ?_⟩
    split at h3
    · rename_i v hz
      refine ⟨v, hie, hz, fun w S => ?_⟩
      split at h3
      · rename_i z hv
        have hr := ofConst_rep w S ⟨fun _ => none, fun _ => none, fun _ => none⟩ hv
        have : z = ez := by
          cases z <;> cases ez <;> simp [eqD] at h3 <;> simp [h3]
        subst this
        exact hr
      · cases h3
    · cases h3
  · cases h
theorem flatU_flat {P : Program} {t : Nat} {d : D} (h : flatU P t d = true) : flatD d = true := by cases d <;> simp [flatU, flatD] at h ⊢
theorem flatU_keyed {P : Program} {k : Nat} {kz : D} (h : flatU P k kz = true) : Keyed P k := by
  cases kz <;> simp only [flatU, Bool.false_eq_true] at h
  · split at h
    · rename_i hu; exact Maps.bool_keyed hu
    · cases h
  · split at h
    · rename_i hu; exact Maps.int_keyed hu
    · cases h
  · split at h
    · rename_i hu; exact Maps.string_keyed hu
    · cases h
theorem key_of {P : Program} {k : Nat} {kz kd : D} {v : Value} (h : flatU P k kz = true) (hl : likeD kz kd = true) (hp : plainD kd) (hr : Rep w S kd v) : keyOf P k v = some (litD kd) ∧ flatD kd = true := by
  cases kz <;> cases kd <;> simp only [likeD, Bool.false_eq_true] at hl <;> simp only [flatU] at h
  · simp only [Rep] at hr; subst hr
    split at h
    · rename_i hu; exact ⟨Maps.keyOf_bool_mk hu _, rfl⟩
    · cases h
  · simp only [Rep] at hr; subst hr
    rename_i q _ q' n
    split at h
    · rename_i q2 hu
      simp only [beq_iff_eq] at h hl
      subst h; subst hl
      refine ⟨Maps.keyOf_int_mk hu ?_, rfl⟩
      simp only [plainD] at hp
      simp [Lit.wf, hp.1, hp.2]
    · cases h
  · obtain ⟨x, rfl, rfl, hs⟩ := hr
    split at h
    · rename_i hu; exact ⟨WideMaps.keyOf_string_mk hu hs, rfl⟩
    · cases h

/-- a new map -/
theorem Sim.newMap (h : Sim c st tmps w S ρ) {s : Nat} (hs : getM st.mem s = none) (k e : Nat) :
    ∃ ρ', ρ.le ρ' ∧ ρ'.mbox s = some w.heap.size ∧ Sim c { st with mem := (s, [.mp k e []]) :: st.mem } tmps (w.alloc (.map #[] 0)) S ρ' := by
  have hg := h.grow (w' := w.alloc (.map #[] 0)) (S' := S) ((Below.refl _ _).alloc (Nat.le_refl _) _) (fun b o hs => hs) (fun b o hs => .inl hs) (fun b o hs => by
    obtain ⟨v, hv⟩ := h.live b o hs; exact ⟨v, cell_alloc_old hv⟩)
  have hle : ρ.le { ρ with mbox := fun k => if k = s then some w.heap.size else ρ.mbox k } := by
    refine ⟨fun _ _ h => h, fun _ _ h => h, fun k b hk => ?_⟩
    by_cases hks : k = s
    · subst hks; rw [h.mps.new k hs] at hk; cases hk
    · simp [hks, hk]
  have hold : ∀ k b, ρ.mbox k = some b → (getM st.mem k).isSome = true := by
    intro k b hk
    cases hm : getM st.mem k with
    | none => rw [h.mps.new k hm] at hk; cases hk
    | some _ => rfl
  have hk : Keeps (w.alloc (.map #[] 0)) S (w.alloc (.map #[] 0)) S := Keeps.refl _ _
  refine ⟨_, hle, by simp, ?_⟩
  refine { size := hg.size, slots := fun k => (hg.slots k).keep hk hle, mem := ?_, inj := hg.inj, boxNew := ?_, mps := ?_, tok := ?_, tokNew := hg.tokNew, below := hg.below, old := hg.old, new := hg.new, live := hg.live, glob := hg.glob, fx := hg.fx, ex := hg.ex, obs := hg.obs, keeps := hg.keeps }
  · intro k' cs' hkm hnm
    simp only [getM] at hkm
    split at hkm
    · cases hkm; cases hnm
    · obtain ⟨b, vs, e', g1, g2, g3, g4, g6⟩ := hg.mem k' cs' hkm hnm
      exact ⟨b, vs, e', g1, g2, g3, RepAs.keep hk hle cs' _ g4, g6⟩
  · intro k' hkm
    simp only [getM] at hkm
    split at hkm
    · cases hkm
    · exact h.boxNew k' hkm
  · refine { at' := fun k' q q' kvs hkm => ?_, inj := fun k' k'' b h1 h2 => ?_, new := fun k' hkm => ?_, lt := fun k' b h1 => ?_, apart := fun k' b h1 => ?_ }
    · simp only [getM] at hkm
      split at hkm
      · rename_i hss
        subst hss
        simp only [Option.some.injEq, List.cons.injEq, AV.mp.injEq, and_true] at hkm
        obtain ⟨rfl, rfl, rfl⟩ := hkm
        exact ⟨w.heap.size, by simp, h.boxNew s hs, .inl h.below.size, ⟨fun p (hp : p ∈ []) => (by cases hp), World.ownsMap_made w c.P k flatR⟩⟩
      · rename_i hss
        obtain ⟨b, g1, g2, g3⟩ := hg.mps.at' k' q q' kvs hkm
        exact ⟨b, hle.2.2 _ _ g1, g2, g3⟩
    · have hlt : ∀ k b, ρ.mbox k = some b → b ≠ w.heap.size := fun k0 b hk0 => by have := h.mps.lt k0 b hk0; omega
      simp only at h1 h2
      split at h1 <;> split at h2
      · simp_all
      · cases h1; exact absurd rfl (hlt _ _ h2)
      · cases h2; exact absurd rfl (hlt _ _ h1)
      · exact h.mps.inj _ _ _ h1 h2
    · simp only [getM] at hkm
      split at hkm
      · cases hkm
      · rename_i hss
        have : ¬ k' = s := fun e => hss e.symm
        simp [this, h.mps.new k' hkm]
    · simp only at h1
      split at h1
      · cases h1; exact (World.ownsMap_made w c.P k flatR).lt
      · exact hg.mps.lt _ _ h1
    · have : ¬ k' = s := fun e => by subst e; rw [h.boxNew k' hs] at h1; cases h1
      simp [this, h.mps.apart k' b h1]
  · intro t ht
    obtain ⟨x, g1, g2⟩ := hg.tok t ht
    exact ⟨x, g1, g2⟩

/-- a map's entries are turned -/
theorem Sim.setMap (h : Sim c st tmps w S ρ) {s b k e : Nat} {kvs kvs' : List (D × D)} {w' : World} (hb : ρ.mbox s = some b) (hs : getM st.mem s = some [.mp k e kvs]) (hg : w.grownBy w' (some b)) (hm : MapAt c.P w' b k e kvs') :
    Sim c { st with mem := (s, [.mp k e kvs']) :: st.mem } tmps w' S ρ := by
  obtain ⟨b1, m1, m2, m3, m4⟩ := h.mps.at' s k e kvs hs
  obtain rfl := Option.some.inj (hb.symm.trans m1)
  obtain ⟨es0, clock0, hmb⟩ := m4.obj
  have hblk : ∀ b' x, w.heap[b']? = some x → b' ≠ b → w'.heap[b']? = some x := fun b' x hx hne => by
    rw [hg.block b' (Array.getElem?_eq_some_iff.1 hx).1 (fun e => hne (Option.some.inj e)), hx]
  have hcell : ∀ b' o v, w.cell? ⟨b', o, none⟩ = some v → b' ≠ b := fun b' o v hv e => by
    subst e; simp [World.cell?, hmb] at hv
  have hk : Keeps w S w' S := fun b' o hso => by
    obtain ⟨v, hv⟩ := h.live b' o hso
    exact ⟨hso, World.cell?_of_block (w := w) (hg.block b' (cell_lt hv) (fun e => hcell b' o v hv (Option.some.inj e)))⟩
  refine { size := h.size, slots := fun k => (h.slots k).keep hk ρ.le_refl, mem := ?_, inj := h.inj, boxNew := ?_, mps := ?_, tok := ?_, tokNew := h.tokNew,
           below := h.below.grown hg (fun k e => by cases e; exact m3), old := h.old, new := h.new, live := fun b' o hs => ?_, glob := fun g cs hg => RepCs.keep hk g 0 cs (h.glob g cs hg), fx := h.fx, ex := h.ex, obs := fun p hp => ⟨?_, (h.obs p hp).2⟩, keeps := fun p hp => (h.keeps p hp).trans hk }
  · intro k' cs' hkm hnm
    simp only [getM] at hkm
    split at hkm
    · cases hkm; cases hnm
    · obtain ⟨b', vs, e', g1, g2, g3, g4, g6⟩ := h.mem k' cs' hkm hnm
      exact ⟨b', vs, e', g1, g2, hblk _ _ g3 (fun e => by subst e; rw [hmb] at g3; cases g3), RepAs.keep hk ρ.le_refl cs' _ g4, g6⟩
  · intro k' hkm
    simp only [getM] at hkm
    split at hkm
    · cases hkm
    · exact h.boxNew k' hkm
  · refine { at' := fun k' q q' kvs2 hkm => ?_, inj := h.mps.inj, new := fun k' hkm => ?_, lt := fun k' b' h1 => Nat.lt_of_lt_of_le (h.mps.lt k' b' h1) hg.size, apart := h.mps.apart }
    · simp only [getM] at hkm
      split at hkm
      · rename_i hss
        subst hss
        simp only [Option.some.injEq, List.cons.injEq, AV.mp.injEq, and_true] at hkm
        obtain ⟨rfl, rfl, rfl⟩ := hkm
        exact ⟨b, hb, m2, m3, hm⟩
      · rename_i hss
        obtain ⟨b', g1, g2, g3, g4⟩ := h.mps.at' k' q q' kvs2 hkm
        have hne : b' ≠ b := fun e => hss (h.mps.inj _ _ _ hb (e ▸ g1))
        exact ⟨b', g1, g2, g3, g4.to (hg.block b' g4.lt (fun e => hne (Option.some.inj e)))⟩
    · simp only [getM] at hkm
      split at hkm
      · cases hkm
      · exact h.mps.new k' hkm
  · intro t ht
    obtain ⟨x, g1, g2⟩ := h.tok t ht
    refine ⟨x, g1, ?_⟩
    rcases g2 with g2 | ⟨b', g0, k1, ⟨cur, e', k2, k2'⟩, k3, k4, k5, k6, k7⟩
    · exact .inl g2
    · exact .inr ⟨b', g0, k1, ⟨cur, e', hblk _ _ k2 (fun e => by subst e; rw [hmb] at k2; cases k2), k2'⟩, k3, k4, k5, k6, k7⟩
  · obtain ⟨v, hv⟩ := h.live b' o hs
    exact ⟨v, ((hk b' o hs).2).trans hv⟩
  · have hp1 := h.obs p hp
    exact hblk _ _ hp1.1 (fun e => by rw [e, hmb] at hp1; rw [← Option.some.inj hp1.1] at hp1; cases hp1.2)

theorem ok_mkm (h : Sim c st tmps w S ρ) {o : Oper} {t : TypeId} {k e : Nat} {ds : List Deferred} (ho : o.op = .makeMap t none) {s : Nat} (hs : getM st.mem s = none) :
    ∃ ρ', (execOp (Act.eval ⟨tmps, ds⟩) o).run c.P w = .ok (.value (.map (some w.heap.size))) (w.alloc (.map #[] 0)) ∧ ρ'.mbox s = some w.heap.size ∧ Sim c { st with mem := (s, [.mp k e []]) :: st.mem } tmps (w.alloc (.map #[] 0)) S ρ' := by
  obtain ⟨ρ', _, h2, h3⟩ := h.newMap hs k e
  refine ⟨ρ', ?_, h2, h3⟩
  unfold execOp
  simp only [ho]
  simp [run_makeMap]

theorem ok_mput (h : Sim c st tmps w S ρ) {o : Oper} {t : TypeId} {k e : Nat} {kz ez : D} (ht : chkTy c.P t (.map k e kz ez) = true) {x y z : Operand} {x' y' z' : X} {ds : List Deferred} (ho : o.op = .mapUpdate t x y z) (hx : trX x = some x') (hy : trX y = some y') (hz : trX z = some z')
    {s : Nat} {kvs : List (D × D)} {kd vd : D} (ex : ev st x' = .mref s) (ey : ev st y' = .d kd) (ez' : ev st z' = .d vd) (hm : getM st.mem s = some [.mp k e kvs]) (g1 : gd st x' = true) (g2 : gd st y' = true) (g3 : gd st z' = true)
    (hl : likeD kz kd = true) (hp : plainD kd) (hf : flatD vd = true) (hn : kvs.length < 9223372036854775807) :
    ∃ w', (execOp (Act.eval ⟨tmps, ds⟩) o).run c.P w = .ok .skip w' ∧ Sim c { st with mem := (s, [.mp k e ((kd, vd) :: kvs)]) :: st.mem } tmps w' S ρ := by
  obtain ⟨hu, hk, he, _⟩ := map_facts ht
  have e1 := h.ev hx g1 (ds := ds)
  have e2 := h.ev hy g2 (ds := ds)
  have e3 := h.ev hz g3 (ds := ds)
  rw [ex] at e1; rw [ey] at e2; rw [ez'] at e3
  obtain ⟨b, hb, hv⟩ := e1
  obtain ⟨b1, m1, m2, m3, m4, m5⟩ := h.mps.at' s k e kvs hm
  obtain rfl := Option.some.inj (hb.symm.trans m1)
  obtain ⟨hkey, hkf⟩ := key_of hk hl hp e2
  obtain ⟨w', hrun, r1, r2⟩ := m5.update (flatU_keyed hk) hu hn hkey (flatR_of e3 hf)
  refine ⟨w', ?_, h.setMap hb hm r2 ⟨fun p hp => ?_, r1⟩⟩
  · unfold execOp
    simp only [ho, hv]
    simp [hrun]
  · rcases List.mem_cons.1 hp with rfl | hp
    · exact ⟨hkf, hf⟩
    · exact m4 p hp

theorem ok_mclr (h : Sim c st tmps w S ρ) {o : Oper} {t : TypeId} {k e k' e' : Nat} {kz ez : D} {tys : List TypeId} (ht : chkTy c.P t (.map k' e' kz ez) = true) {x : Operand} {x' : X} {ds : List Deferred} (ho : o.op = .call { callee := .builtin .clear, args := #[x], argTypes := (t :: tys).toArray }) (hd : o.dst = none) (hx : trX x = some x')
    {s : Nat} {kvs : List (D × D)} (ex : ev st x' = .mref s) (hm : getM st.mem s = some [.mp k e kvs]) (g1 : gd st x' = true) :
    ∃ w', (execOp (Act.eval ⟨tmps, ds⟩) o).run c.P w = .ok (.value (.tuple #[])) w' ∧ Sim c { st with mem := (s, [.mp k e []]) :: st.mem } tmps w' S ρ := by
  obtain ⟨hu, hk, he, _⟩ := map_facts ht
  have e1 := h.ev hx g1 (ds := ds)
  rw [ex] at e1
  obtain ⟨b, hb, hv⟩ := e1
  obtain ⟨b1, m1, m2, m3, m4, m5⟩ := h.mps.at' s k e kvs hm
  obtain rfl := Option.some.inj (hb.symm.trans m1)
  obtain ⟨es, clock, hmb, _⟩ := id m5
  have hg : w.grownBy (ChangeMaps.setBlock w b (.map #[] clock)) (some b) := ⟨rfl, rfl, rfl, by simp [ChangeMaps.setBlock], fun i _ hi => ChangeMaps.heap_setBlock_other hmb _ (fun e => hi (by rw [e]))⟩
  refine ⟨ChangeMaps.setBlock w b (.map #[] clock), ?_, h.setMap hb hm hg ⟨fun p (hp : p ∈ []) => (by cases hp), #[], clock, ChangeMaps.heap_setBlock_same hmb _, ⟨by simp, MapKept.stamped_empty clock, by simp⟩, Nat.le_refl _, rfl⟩⟩
  unfold execOp
  simp [ho, resolve, invoke, builtin, Builtin.clear_, hv, run_underlying hu, MapKept.run_getObj_map hmb, MapKept.run_setObj_map _ hmb, ChangeMaps.setBlock]

theorem ok_mget (h : Sim c st tmps w S ρ) {o : Oper} {t : TypeId} {k e : Nat} {kz ez : D} (ht : chkTy c.P t (.map k e kz ez) = true) {x y : Operand} {x' y' : X} {ds : List Deferred} {ok : Bool} (ho : o.op = .lookup t x y ok) (hx : trX x = some x') (hy : trX y = some y')
    {r : AV × Prop × Bool} (hr : opv c.G st (.mget 0 ok k e kz ez x' y') = some r) (hob : r.2.1) (hg : r.2.2 = true) :
    ∃ cv, (execOp (Act.eval ⟨tmps, ds⟩) o).run c.P w = .ok (.value cv) w ∧ RepA w S ρ r.1 cv := by
  obtain ⟨hu, hk, he, ie, z, hie, hz, hzr⟩ := map_facts ht
  simp only [opv] at hr
  split at hr
  · rename_i s kd ex ey
    split at hr
    · rename_i k' e' kvs hm
      cases hr
      simp only at hob hg
      obtain ⟨⟨rfl, rfl⟩, hl, hp⟩ := hob
      simp only [Bool.and_eq_true] at hg
      have e1 := h.ev hx hg.1 (ds := ds)
      have e2 := h.ev hy hg.2 (ds := ds)
      rw [ex] at e1; rw [ey] at e2
      obtain ⟨b, hb, hv⟩ := e1
      obtain ⟨b1, m1, m2, m3, m4, m5⟩ := h.mps.at' s k' e' kvs hm
      obtain rfl := Option.some.inj (hb.symm.trans m1)
      obtain ⟨hkey, hkf⟩ := key_of hk hl hp e2
      have hzf := flatU_flat he
      have hzz : (zeroValue e').run c.P w = .ok z w := by simp [zeroValue, hie, hz, run_typeInfo]
      have hat := mapD_atKey hkf ez m4
      cases ok with
      | true =>
        obtain ⟨v, ps, hrun, hv2⟩ := m5.look_ok (flatU_keyed hk) hu hzz (flatR_of (hzr w S) hzf) hkey
        rw [hat] at hv2
        rw [mapD_has hkf m4] at hrun
        refine ⟨.tuple #[v, .bool (mapHas kvs kd)], ?_, ⟨_, rfl, ?_⟩⟩
        · unfold execOp
          simp only [ho, hv]
          simp [hrun]
        · exact ⟨_, _, rfl, rep_of_flatR hv2 (mapAt_flat hzf m4), _, _, rfl, rfl, rfl⟩
      | false =>
        obtain ⟨v, ps, hrun, hv2⟩ := m5.lookup (flatU_keyed hk) hu hzz (flatR_of (hzr w S) hzf) hkey
        rw [hat] at hv2
        refine ⟨v, ?_, rep_of_flatR hv2 (mapAt_flat hzf m4)⟩
        unfold execOp
        simp only [ho, hv]
        simp [hrun]
    · cases hr
  · cases hr
end Go.Abs
end
section
set_option linter.unusedSimpArgs false
set_option linter.unusedVariables false
set_option linter.unusedSectionVars false
namespace Go.Abs
open Go.RowKit
variable {c : Ctx} {st : St} {tmps : Array Value} {w : World} {S : Safe} {ρ : Rho}

/-! ## slices with room of their own, across calls -/
theorem Sim.box_lt (h : Sim c st tmps w S ρ) {s b : Nat} (hb : ρ.box s = some b) : b < w.heap.size := by
  cases hs : getM st.mem s with
  | none => rw [h.boxNew s hs] at hb; cases hb
  | some cs =>
    obtain ⟨b', vs, e, h1, h2, h3, _⟩ := h.mem s cs hs (h.noMp hb hs)
    rw [hb] at h1; cases h1
    exact (Array.getElem?_eq_some_iff.1 h3).1
theorem Sim.tok_lt (h : Sim c st tmps w S ρ) {t b : Nat} {y : Nat × Nat × Nat} (ht : getT st.tk t = some true) (hb : ρ.tok t = some (some ⟨b, 0, none⟩, y)) (hy : y.1 ≠ y.2.1) : b < w.heap.size := by
  obtain ⟨x, h1, h2⟩ := h.tok t ht
  rw [hb] at h1; cases h1
  rcases h2 with h2 | ⟨b', k0, _, ⟨cur, e, k2, _⟩, _⟩
  · exact absurd h2 hy
  · cases k0; exact (Array.getElem?_eq_some_iff.1 k2).1
/-- a block that may be handed on: nothing else stands on it -/
def Handed (c : Ctx) (st : St) (w : World) (ρ : Rho) (b : Nat) : Prop :=
  c.Own b ∧ (∃ cur e, w.heap[b]? = some (.cells cur e (0, 0))) ∧ (∀ s, ρ.box s ≠ some b) ∧ ∀ t b' y, getT st.tk t = some true → ρ.tok t = some (some ⟨b', 0, none⟩, y) → y.1 ≠ y.2.1 → b' ≠ b
/-- behind a call that was handed the blocks X -/
theorem Sim.growX (h : Sim c st tmps w S ρ) {w' : World} {S' : Safe} {X : List Nat} (hX : ∀ b ∈ X, Handed c st w ρ b) (hb : BelowO (OwnX c.P w X) w w') (hk : Keeps w S w' S') (hS' : ∀ b o, S' b o → S b o ∨ OwnX c.P w X b) (hl : Live w' S') : Sim c st tmps w' S' ρ := by
  have hblk : ∀ b x, w.heap[b]? = some x → b ∉ X → w'.heap[b]? = some x := fun b x hx hn => by
    rw [hb.block b (fun ho => ?_), hx]
    rcases ho with ho | ⟨ho, _⟩
    · have := (Array.getElem?_eq_some_iff.1 hx).1; omega
    · exact hn ho
  have hnot : ∀ b x o, w.heap[b]? = some x → b ∉ X → ¬ S b o → ¬ S' b o := fun b x o hx hn hno hs => by
    rcases hS' b o hs with h1 | h1 | ⟨h1, _⟩
    · exact hno h1
    · have := (Array.getElem?_eq_some_iff.1 hx).1; omega
    · exact hn h1
  have hmap : SameMaps w w' := ⟨hb.size, fun b es clock hx => (hblk b _ hx (fun hm => by
    obtain ⟨_, ⟨cur, e, h2⟩, _⟩ := hX b hm
    rw [hx] at h2; cases h2)).trans hx.symm⟩
  refine { size := h.size, slots := fun k => (h.slots k).keep hk ρ.le_refl, mem := ?_, inj := h.inj, boxNew := h.boxNew, mps := h.mps.to hmap, tok := ?_, tokNew := h.tokNew,
           below := ?_, old := fun b o hs => (hk b o (h.old b o hs)).1, new := ?_, live := hl, glob := fun g cs hg => RepCs.keep hk g 0 cs (h.glob g cs hg), fx := h.fx, ex := h.ex, obs := fun p hp => ⟨?_, (h.obs p hp).2⟩, keeps := fun p hp => (h.keeps p hp).trans hk }
  · intro s cs hs hnm
    obtain ⟨b, vs, e, h1, h2, h3, h4, h6⟩ := h.mem s cs hs hnm
    have hn : b ∉ X := fun hm => (hX b hm).2.2.1 s h1
    exact ⟨b, vs, e, h1, h2, hblk _ _ h3 hn, RepAs.keep hk ρ.le_refl cs _ h4, fun o => hnot b _ o h3 hn (h6 o)⟩
  · intro t ht
    obtain ⟨x, h1, h2⟩ := h.tok t ht
    refine ⟨x, h1, ?_⟩
    by_cases hfull : x.2.1 = x.2.2.1
    · exact .inl hfull
    rcases h2 with h2 | ⟨b, g0, g1, ⟨cur, e, g2, g3⟩, g4, g5, g7, g8, g9⟩
    · exact .inl h2
    · have hn : b ∉ X := fun hm => (hX b hm).2.2.2 t b x.2 ht (by rw [h1, ← g0]) hfull rfl
      exact .inr ⟨b, g0, g1, ⟨cur, e, hblk _ _ g2 hn, g3⟩, g4, g5, fun o ho => hnot b _ o g2 hn (g7 o ho), g8, g9⟩
  · refine ⟨hb.os.trans h.below.os, hb.tape.trans h.below.tape, hb.output.trans h.below.output, Nat.le_trans h.below.size hb.size, fun k hno => ?_⟩
    refine (hb.block k fun ho => ?_).trans (h.below.block k hno)
    rcases ho with ho | ⟨ho, _⟩
    · exact hno (.inl (Nat.le_trans h.below.size ho))
    · exact hno (hX k ho).1
  · intro b o hs
    rcases hS' b o hs with h1 | h1 | ⟨h1, _⟩
    · exact h.new b o h1
    · exact .inr (.inl (Nat.le_trans h.below.size h1))
    · exact .inr (hX b h1).1
  · refine hblk _ _ (h.obs p hp).1 fun hm => ?_
    obtain ⟨_, ⟨cur, e, h2⟩, _⟩ := hX _ hm
    have h3 := h.obs p hp
    rw [h2] at h3
    have h4 := Option.some.inj h3.1
    have h5 := h3.2
    rw [← h4] at h5; cases h5
/-- an argument, and what it is as data -/
theorem arg_at {m : Mem} {n : Nat} : ∀ {as : List AV} {l : List Value} {cvs : List CV} {k : Nat} {a : AV}, RepAs w S ρ as l → toCVs m n as = some cvs → as.getD k .undef = a → a ≠ .undef →
    ∃ v cv, l[k]? = some v ∧ RepA w S ρ a v ∧ cvs[k]? = some cv ∧ a.toCV m n = some cv
  | [], l, cvs, k, a, h, hc, ha, hne => by simp at ha; exact absurd ha.symm hne
  | x :: as, l, cvs, k, a, ⟨v, r, e, h1, h2⟩, hc, ha, hne => by
    subst e
    simp only [toCVs] at hc
    split at hc
    · rename_i y ys hy hys
      cases hc
      cases k with
      | zero =>
        simp only [List.getD_cons_zero] at ha
        subst ha
        exact ⟨v, y, rfl, h1, rfl, hy⟩
      | succ k =>
        simp only [List.getD_cons_succ] at ha
        exact arg_at (k := k) h2 hys ha hne
    · cases hc
theorem arg_get {l r : List Value} {k : Nat} {v : Value} (h : l[k]? = some v) : (l ++ r)[k]? = some v := by
  rw [List.getElem?_append_left (List.getElem?_eq_some_iff.1 h).1]; exact h
theorem cv_get {l r : List CV} {k : Nat} {v : CV} (h : l[k]? = some v) : (l ++ r)[k]? = some v := by
  rw [List.getElem?_append_left (List.getElem?_eq_some_iff.1 h).1]; exact h
/-- ahead of a call that uses up an argument -/
theorem Sim.takes (h : Sim c st tmps w S ρ) {as : List AV} {l cl : List Value} {cvs caps : List CV} {sz : Nat} {a : Option Nat} (hr : RepAs w S ρ as l) (hc : toCVs [] 1 as = some cvs) (ho : argOwn st.tk as sz a) :
    ∃ X, TakesX c.P w S X (cvs ++ caps) (l ++ cl) sz a ∧ Sim c { st with tk := tkUse (ownTok as a) st.tk } tmps w S ρ ∧ (∀ b ∈ X, Handed c { st with tk := tkUse (ownTok as a) st.tk } w ρ b) := by
  cases a with
  | none => exact ⟨[], rfl, h, fun b hb => by cases hb⟩
  | some k =>
    simp only [argOwn, ownTok] at ho ⊢
    split at ho
    · rename_i u sz' es hk
      obtain ⟨rfl, hu⟩ := ho
      obtain ⟨v, cv, h1, h2, h3, h4⟩ := arg_at hr hc hk (by simp)
      simp only [hk, tkUse]
      obtain ⟨hl, hlen, base, n, cap, htok, hv⟩ := h2
      simp only [AV.toCV, AV.toD, Option.some.injEq] at h4
      subst h4
      obtain ⟨x, g1, g2⟩ := h.tok u hu
      rw [htok] at g1
      cases g1
      rcases g2 with g2 | ⟨b, k0, k1, ⟨cur, e, k2, k2'⟩, k3, k4, k5, k6, k7⟩
      · exact ⟨[], ⟨es, v, cv_get h3, hlen, arg_get h1, base, n, cap, hv, .inl g2⟩, h.kill u, fun b hb => by cases hb⟩
      · refine ⟨[b], ⟨es, v, cv_get h3, hlen, arg_get h1, base, n, cap, hv, .inr ⟨b, k0, ⟨rfl, ?_⟩, ⟨cur, e, k2, k2'⟩, k3, k4, k5⟩⟩, h.kill u, fun b' hb => ?_⟩
        · rcases k1 with k1 | ⟨_, k1⟩
          · exact Nat.le_trans h.ex.1 k1
          · exact k1
        · rw [List.mem_singleton] at hb
          subst hb
          refine ⟨k1, ⟨cur, e, k2⟩, k6, fun t b'' y ht hb hy => ?_⟩
          obtain ⟨ht1, ht2⟩ := getT_kill_true ht
          exact k7 t b'' y ht2 ht1 hb hy
    · rename_i es hk
      obtain ⟨v, cv, h1, h2, h3, h4⟩ := arg_at hr hc hk (by simp)
      simp only [hk, tkUse]
      obtain ⟨hl, base, n, hv⟩ := h2
      simp only [AV.toCV, AV.toD, Option.some.injEq] at h4
      subst h4
      exact ⟨[], ⟨es, v, cv_get h3, ho, arg_get h1, base, n, n, hv, .inl rfl⟩, h, fun b hb => by cases hb⟩
    · exact ho.elim
theorem getT_use {u : Option Nat} {tk : List (Nat × Bool)} {t : Nat} (h : getT tk t = none) : getT (tkUse u tk) t = none := by
  cases u with
  | none => exact h
  | some u => exact getT_kill_none.2 h
/-- behind a call that returns a slice with room of its own -/
theorem Sim.gotOwn (h : Sim c st tmps w S ρ) {w' : World} {S' : Safe} {X : List Nat} (hX : ∀ b ∈ X, Handed c st w ρ b) (hb : BelowO (OwnX c.P w X) w w') (hk : Keeps w S w' S') (hS' : ∀ b o, S' b o → S b o ∨ OwnX c.P w X b) (hl : Live w' S')
    {es : List (List D)} {sz : Nat} {v : Value} (hv : Rep w' S' (.lst es) v) (hlen : ∀ e ∈ es, e.length = sz) (hroom : Room (OwnX c.P w X) w' S' sz v) {d : Nat} (hd : getT st.tk d = none) :
    ∃ ρ', Sim c { st with tk := (d, true) :: st.tk } tmps w' S' ρ' ∧ RepA w' S' ρ' (.own d sz es) v := by
  have hs := h.growX hX hb hk hS' hl
  obtain ⟨base, n, cap, hv', hr⟩ := hroom
  obtain ⟨ρ', hle, htok, hs'⟩ := hs.newTok (d := d) hd none (tk' := (d, true) :: st.tk) (fun t => by
    simp only [getT, reduceCtorEq, if_false]
    by_cases ht : d = t
    · subst ht; simp
    · rw [if_neg ht, if_neg (fun e => ht e.symm)]) (base, n, cap, sz) (by
    rcases hr with hr | ⟨b, k0, k1, k2, k3, k4, k5⟩
    · exact .inl hr
    · refine .inr ⟨b, k0, ?_, k2, k3, k4, k5, fun s hsb => ?_, fun t b' y _ ht hb' hy => ?_⟩
      · rcases k1 with k1 | ⟨k1, _⟩
        · exact .inl (Nat.le_trans h.below.size k1)
        · exact (hX b k1).1
      · rcases k1 with k1 | ⟨k1, _⟩
        · have := h.box_lt hsb; omega
        · exact (hX b k1).2.2.1 s hsb
      · rcases k1 with k1 | ⟨k1, _⟩
        · have := h.tok_lt ht hb' hy; omega
        · exact (hX b k1).2.2.2 t b' y ht hb' hy)
  exact ⟨ρ', hs', hv, hlen, base, n, cap, htok, hv'⟩
end Go.Abs
end
section
set_option linter.unusedSimpArgs false
set_option linter.unusedVariables false
set_option linter.unusedSectionVars false
namespace Go.Abs
open Go.RowKit
variable {c : Ctx} {st : St} {tmps : Array Value} {w : World} {S : Safe} {ρ : Rho}

theorem ok_len_slice (h : Sim c st tmps w S ρ) {o : Oper} {t : TypeId} {esz eb : Nat} (ht : chkTy c.P t (.slice esz eb) = true) {x : Operand} {x' : X} {tys : List TypeId} {ds : List Deferred}
    (ho : o.op = .call { callee := .builtin .len, args := #[x], argTypes := (t :: tys).toArray }) (hx : trX x = some x') (hg : gd st x' = true) {n : Nat} (hn : lenOf false (ev st x') = some n) :
    (execOp (Act.eval ⟨tmps, ds⟩) o).run c.P w = .ok (.value (.int .i64 n)) w ∧ (n : Int) ≤ 9223372036854775807 := by
  have e1 := h.ev hx hg (ds := ds)
  obtain ⟨e, ie, z, hu, _⟩ := slice_facts ht
  refine ⟨?_, lenOf_le e1 hn⟩
  have : ∃ base cap, Act.eval ⟨tmps, ds⟩ x = .slice base n cap := by
    unfold lenOf at hn
    split at hn <;> first | (cases hn; done) | skip
    · rename_i h1 h2; cases h1
    · rename_i h1 h2; cases hn; rw [h2] at e1; obtain ⟨b, cp, hv, _⟩ := e1; exact ⟨b, cp, hv⟩
    · rename_i h1 h2; cases hn; rw [h2] at e1; obtain ⟨⟨b, cp, hv, _⟩, _⟩ := e1; exact ⟨b, cp, hv⟩
    · rename_i h1 h2; cases hn; rw [h2] at e1; obtain ⟨⟨b, cp, hv, _⟩, _⟩ := e1; exact ⟨b, cp, hv⟩
  obtain ⟨base, cap, hv⟩ := this
  unfold execOp
  simp [ho, resolve, invoke, builtin, Builtin.len_, hv, run_underlying hu, goInt]
theorem ok_len_str (h : Sim c st tmps w S ρ) {o : Oper} {t : TypeId} (ht : chkTy c.P t (.cell (.d (.str []))) = true) {x : Operand} {x' : X} {tys : List TypeId} {ds : List Deferred}
    (ho : o.op = .call { callee := .builtin .len, args := #[x], argTypes := (t :: tys).toArray }) (hx : trX x = some x') (hg : gd st x' = true) {n : Nat} (hn : lenOf true (ev st x') = some n) :
    (execOp (Act.eval ⟨tmps, ds⟩) o).run c.P w = .ok (.value (.int .i64 n)) w ∧ (n : Int) ≤ 9223372036854775807 := by
  have e1 := h.ev hx hg (ds := ds)
  have hu : c.P.underlying t = some .string := by
    simp only [chkTy, Bool.and_eq_true, undOk] at ht
    have := ht.1.1
    split at this <;> simp_all
  refine ⟨?_, lenOf_le e1 hn⟩
  have : ∃ s : ByteArray, Act.eval ⟨tmps, ds⟩ x = .string s ∧ s.size = n := by
    unfold lenOf at hn
    split at hn <;> first | (cases hn; done) | skip
    · rename_i h1 h2; cases hn; rw [h2] at e1; obtain ⟨s, hv, rfl, _⟩ := e1; exact ⟨s, hv, by simp⟩
    · rename_i h1 h2; cases h1
    · rename_i h1 h2; cases h1
    · rename_i h1 h2; cases h1
  obtain ⟨s, hv, hs⟩ := this
  unfold execOp
  simp [ho, resolve, invoke, builtin, Builtin.len_, hv, run_underlying hu, goInt, hs]

theorem ok_isnil (h : Sim c st tmps w S ρ) {o : Oper} {t t' : TypeId} {esz eb : Nat} (ht : chkTy c.P t (.slice esz eb) = true) {x : Operand} {x' : X} {ds : List Deferred}
    (ho : o.op = .binOp .eql t x (.const (.slice none 0 0)) t') (hx : trX x = some x') (hg : gd st x' = true) {es : List (List D)} (he : (ev st x').elems = some es) :
    ∃ b : Bool, (execOp (Act.eval ⟨tmps, ds⟩) o).run c.P w = .ok (.value (.bool b)) w ∧ (b = true → es = []) := by
  have e1 := elems_rep (h.ev hx hg (ds := ds)) he
  obtain ⟨e, ie, z, hu, _⟩ := slice_facts ht
  obtain ⟨base, cap, hv, h1, h2, h3, _⟩ := e1
  refine ⟨base.isNone, ?_, fun hb => ?_⟩
  · unfold execOp
    simp only [ho]
    refine run_v (v := _) (w' := w) ?_
    rw [hv]
    have hev : Act.eval ⟨tmps, ds⟩ (.const (.slice none 0 0)) = .slice none 0 0 := rfl
    rw [hev]
    have : (Op.equal t (.slice base es.length cap) (.slice none 0 0)).run c.P w = .ok base.isNone w := by
      unfold Op.equal
      have : Op.maxDepth = (Op.maxDepth - 1) + 1 := by decide
      rw [this]
      unfold Op.equalIn
      cases base <;> simp [run_underlying hu]
    simp [eqGuard_at_slice, binOp, this]
  · have : base = none := by cases base <;> simp_all
    have := h3 this
    exact List.eq_nil_of_length_eq_zero (by omega)

/-- what an operation is asked to end in -/
def Goes (c : Ctx) (K : St → Prop) : Act → World → Prop := fun a w => a.defers = c.ds ∧ ∃ st S ρ, Sim c st a.tmps w S ρ ∧ K st

theorem val_done {o : Oper} {cv : Value} {w' : World} {S' : Safe} {ρ' : Rho} (hrun : (execOp (Act.eval ⟨tmps, c.ds⟩) o).run c.P w = .ok (.value cv) w') (hs : Sim c st tmps w' S' ρ') {v : AV} (hv : RepA w' S' ρ' v cv) {d : Nat} (hd : o.dst = some d) (hN : c.D d)
    {g : Option Bool} (hg : g = none ∨ g = some true) {K : St → Prop} (hK : K (st.put g d v)) (Q : Exit → Act → World → Prop) : o.wp c.P ⟨tmps, c.ds⟩ w (Goes c K) Q := by
  unfold Oper.wp
  rw [hrun]
  simp only [Oper.upon_value, Act.put, hd]
  refine ⟨rfl, _, _, _, hs.put hN hv g ?_, hK⟩
  rintro b hb rfl
  rcases hg with hg | hg <;> rw [hg] at hb <;> cases hb

theorem onG_true {g : Option Bool} (hg : g = none ∨ g = some true) {p : Prop} (h : onG g p) : p := by
  rcases hg with rfl | rfl
  · exact h
  · exact h rfl

theorem opd_some {α : Type} {x : Option α} {f : α → Option I} {i : I} (h : (x >>= f) = some i) : ∃ a, x = some a ∧ f a = some i := by
  cases x with
  | none => cases h
  | some a => exact ⟨a, rfl, h⟩

variable {E : AEnv} {T : Nat → Option Ty}

theorem op_sound (hG : E.G = c.G) (hC : ∀ f args r, E.C f args r → Ev c.P c.G f args r) (hT : ∀ t ty, T t = some ty → chkTy c.P t ty = true) (h : Sim c st tmps w S ρ) {o : Oper} {i : I}
    (htr : trOp T o.dst o.op = some i) (hdst : ∀ d, o.dst = some d → c.D d) {g : Option Bool} (hg : g = none ∨ g = some true) {K : St → Prop} (hK : aopG E g i st K) (Q : Exit → Act → World → Prop) : o.wp c.P ⟨tmps, c.ds⟩ w (Goes c K) Q := by
  cases hop : o.op <;> rw [hop] at htr <;> simp only [trOp, Option.bind_eq_bind, Option.pure_def, reduceCtorEq] at htr
  case move x =>
    obtain ⟨d, hd, htr⟩ := opd_some htr
    obtain ⟨x', hx, htr⟩ := opd_some htr
    cases htr
    simp only [aopG, opv] at hK
    obtain ⟨hgs, _⟩ := onG_true hg hK.1
    obtain ⟨cv, hrun, hrep⟩ := ok_move h (.inl hop) hx hgs
    exact val_done hrun h hrep hd (hdst d hd) hg hK.2 Q
  case assign x =>
    obtain ⟨d, hd, htr⟩ := opd_some htr
    obtain ⟨x', hx, htr⟩ := opd_some htr
    cases htr
    simp only [aopG, opv] at hK
    obtain ⟨hgs, _⟩ := onG_true hg hK.1
    obtain ⟨cv, hrun, hrep⟩ := ok_move h (.inr hop) hx hgs
    exact val_done hrun h hrep hd (hdst d hd) hg hK.2 Q
  case pick x y z =>
    obtain ⟨d, hd, htr⟩ := opd_some htr
    unfold trPick at htr
    split at htr
    · obtain ⟨x', hx, htr⟩ := opd_some htr
      obtain ⟨y', hy, htr⟩ := opd_some htr
      cases htr
      simp only [aopG, opv] at hK
      split at hK
      · rename_i v ob gs hr
        split at hr
        · rename_i p q hp hq
          cases hr
          obtain ⟨hgs, hob⟩ := onG_true hg hK.1
          obtain ⟨cv, hrun, hrep⟩ := ok_and h hop hx hy hp hq hgs hob
          exact val_done hrun h hrep hd (hdst d hd) hg hK.2 Q
        · rename_i p hp _
          cases hr
          obtain ⟨hgs, hob⟩ := onG_true hg hK.1
          obtain ⟨cv, hrun, hrep⟩ := ok_and0 h hop hx hp hgs hob
          exact val_done hrun h hrep hd (hdst d hd) hg hK.2 Q
        · cases hr
      · exact hK.elim
    · obtain ⟨x', hx, htr⟩ := opd_some htr
      obtain ⟨y', hy, htr⟩ := opd_some htr
      cases htr
      simp only [aopG, opv] at hK
      split at hK
      · rename_i v ob gs hr
        split at hr
        · rename_i p q hp hq
          cases hr
          obtain ⟨hgs, hob⟩ := onG_true hg hK.1
          obtain ⟨cv, hrun, hrep⟩ := ok_or h hop hx hy hp hq hgs hob
          exact val_done hrun h hrep hd (hdst d hd) hg hK.2 Q
        · rename_i p hp _
          cases hr
          obtain ⟨hgs, hob⟩ := onG_true hg hK.1
          obtain ⟨cv, hrun, hrep⟩ := ok_or0 h hop hx hp hgs hob
          exact val_done hrun h hrep hd (hdst d hd) hg hK.2 Q
        · cases hr
      · exact hK.elim
    · cases htr
  case binOp op t x y t' =>
    unfold trBin at htr
    split at htr
    · obtain ⟨ty, hty, htr⟩ := opd_some htr
      split at htr
      · rename_i esz eb
        obtain ⟨d, hd, htr⟩ := opd_some htr
        obtain ⟨x', hx, htr⟩ := opd_some htr
        cases htr
        simp only [aopG] at hK
        split at hK
        · rename_i es hes
          have hgx := onG_true hg hK.1
          obtain ⟨b, hrun, hb⟩ := ok_isnil h (hT _ _ hty) hop hx hgx hes (ds := c.ds)
          exact val_done (v := .d (.bool b)) hrun h rfl hd (hdst d hd) hg (hK.2 b hb) Q
        · exact hK.elim
      · cases htr
    rename_i op y _
    split at htr
    · rename_i hbb
      simp only [Bool.and_eq_true] at hbb
      obtain ⟨d, hd, htr⟩ := opd_some htr
      obtain ⟨x', hx, htr⟩ := opd_some htr
      obtain ⟨y', hy, htr⟩ := opd_some htr
      cases htr
      have hu : c.P.underlying t = some .bool := by
        have h2 := hbb.2
        unfold isBoolT at h2
        split at h2
        · rename_i b hty
          have := hT _ _ hty
          simp only [chkTy, Bool.and_eq_true, undOk] at this
          have := this.1.1
          split at this <;> simp_all
        · cases h2
      simp only [aopG, opv] at hK
      split at hK
      · rename_i v ob gs hr
        split at hr
        · rename_i p q hp hq
          cases hr
          obtain ⟨hgs, _⟩ := onG_true hg hK.1
          simp only [Bool.and_eq_true] at hgs
          obtain ⟨cv, hrun, hrep⟩ := ok_beq h hu hop hbb.1 hx hy hgs.1 hgs.2 hp hq
          exact val_done hrun h hrep hd (hdst d hd) hg hK.2 Q
        · cases hr
      · exact hK.elim
    obtain ⟨d, hd, htr⟩ := opd_some htr
    obtain ⟨x', hx, htr⟩ := opd_some htr
    obtain ⟨y', hy, htr⟩ := opd_some htr
    cases htr
    simp only [aopG, opv] at hK
    split at hK
    · rename_i v ob gs hr
      split at hr
      · rename_i r hrr
        cases hr
        obtain ⟨hgs, hob⟩ := onG_true hg hK.1
        simp only [Bool.and_eq_true] at hgs
        obtain ⟨cv, hrun, hrep⟩ := ok_bin h hop hx hy hgs.1 hgs.2 hrr hob
        exact val_done hrun h hrep hd (hdst d hd) hg hK.2 Q
      · cases hr
    · exact hK.elim
  case unOp u t x =>
    unfold trUn at htr
    cases u
    case neg =>
      obtain ⟨ty, hty, htr⟩ := opd_some htr
      split at htr
      · rename_i k
        obtain ⟨d, hd, htr⟩ := opd_some htr
        obtain ⟨x', hx, htr⟩ := opd_some htr
        cases htr
        have hev : ev st (.c (.d (.int k 0))) = .d (.int k 0) := rfl
        simp only [aopG, opv, hev] at hK
        split at hK
        · rename_i v ob gs hr
          split at hr
          · rename_i r hrr
            cases hr
            obtain ⟨hgs, hob⟩ := onG_true hg hK.1
            simp only [Bool.and_eq_true] at hgs
            obtain ⟨cv, hrun, hrep⟩ := ok_neg h hop hx hgs.2 hrr hob
            exact val_done hrun h hrep hd (hdst d hd) hg hK.2 Q
          · cases hr
        · exact hK.elim
      · cases htr
    case not =>
      obtain ⟨d, hd, htr⟩ := opd_some htr
      obtain ⟨x', hx, htr⟩ := opd_some htr
      cases htr
      simp only [aopG, opv] at hK
      split at hK
      · rename_i v ob gs hr
        split at hr
        · rename_i b hb
          cases hr
          obtain ⟨hgs, _⟩ := onG_true hg hK.1
          obtain ⟨cv, hrun, hrep⟩ := ok_not h hop hx hgs hb
          exact val_done hrun h hrep hd (hdst d hd) hg hK.2 Q
        · cases hr
      · exact hK.elim
    all_goals cases htr
  case build t parts =>
    obtain ⟨ty, hty, htr⟩ := opd_some htr
    split at htr
    · rename_i zs fs
      obtain ⟨d, hd, htr⟩ := opd_some htr
      obtain ⟨xs, hxs, htr⟩ := opd_some htr
      cases htr
      simp only [aopG, opv] at hK
      split at hK
      · rename_i v ob gs hr
        split at hr
        · rename_i cs hcs
          cases hr
          obtain ⟨hgs, _⟩ := onG_true hg hK.1
          obtain ⟨cv, hrun, hrep⟩ := ok_build h (hT _ _ hty) hop hxs hgs hcs
          exact val_done hrun h hrep hd (hdst d hd) hg hK.2 Q
        · cases hr
      · exact hK.elim
    · cases htr
  case buildSlice t n parts =>
    obtain ⟨ty, hty, htr⟩ := opd_some htr
    split at htr
    · rename_i esz eb
      split at htr
      · rename_i hcond
        obtain ⟨d, hd, htr⟩ := opd_some htr
        obtain ⟨xs, hxs, htr⟩ := opd_some htr
        cases htr
        simp only [aopG, opv] at hK
        split at hK
        · rename_i v ob gs hr
          split at hr
          · rename_i es hes
            cases hr
            obtain ⟨hgs, _⟩ := onG_true hg hK.1
            obtain ⟨cv, w', S', hrun, hs', hrep⟩ := ok_bsl h (hT _ _ hty) hop hcond.1 hxs hgs hes hcond.2
            exact val_done hrun hs' hrep hd (hdst d hd) hg hK.2 Q
          · cases hr
        · exact hK.elim
      · cases htr
    · cases htr
  case fieldAddr t x i =>
    obtain ⟨ty, hty, htr⟩ := opd_some htr
    split at htr
    · rename_i zs fs
      obtain ⟨fd, hfd, htr⟩ := opd_some htr
      obtain ⟨d, hd, htr⟩ := opd_some htr
      obtain ⟨x', hx, htr⟩ := opd_some htr
      cases htr
      simp only [aopG] at hK
      split at hK
      · rename_i v ob gs hr
        obtain ⟨hgs, hob⟩ := onG_true hg hK.1
        have hgd : gd st x' = true := by
          simp only [opv] at hr
          split at hr <;> first | (cases hr; done) | (cases hr; exact hgs)
        have hr' : opv c.G st (.fa 0 fd.1 x') = some (v, ob, gs) := by rw [← hG, ← hr]; simp only [opv]
        obtain ⟨cv, hrun, hrep⟩ := ok_fa h (hT _ _ hty) hop hx hfd hgd hr' hob
        exact val_done hrun h hrep hd (hdst d hd) hg hK.2 Q
      · exact hK.elim
    · cases htr
  case load t x =>
    obtain ⟨ty, hty, htr⟩ := opd_some htr
    obtain ⟨d, hd, htr⟩ := opd_some htr
    obtain ⟨x', hx, htr⟩ := opd_some htr
    cases htr
    simp only [aopG] at hK
    split at hK
    · rename_i v ob gs hr
      obtain ⟨hgs, hob⟩ := onG_true hg hK.1
      have hgd : gd st x' = true := by
        simp only [opv] at hr
        repeat' split at hr
        all_goals first | (cases hr; done) | (cases hr; exact hgs)
      have hr' : opv c.G st (.ld 0 (tyAgg ty) (tySize ty) x') = some (v, ob, gs) := by rw [← hG, ← hr]; simp only [opv]
      obtain ⟨cv, hrun, hrep⟩ := ok_ld h (hT _ _ hty) hop hx hgd hr' hob
      exact val_done hrun h hrep hd (hdst d hd) hg hK.2 Q
    · exact hK.elim
  case indexAddr t x y =>
    obtain ⟨ty, hty, htr⟩ := opd_some htr
    split at htr
    · rename_i esz eb
      obtain ⟨d, hd, htr⟩ := opd_some htr
      obtain ⟨x', hx, htr⟩ := opd_some htr
      obtain ⟨y', hy, htr⟩ := opd_some htr
      cases htr
      simp only [aopG, opv] at hK
      split at hK
      · rename_i v ob gs hr
        split at hr
        · rename_i es k n hes hn
          cases hr
          obtain ⟨hgs, hob⟩ := onG_true hg hK.1
          simp only [Bool.and_eq_true] at hgs
          obtain ⟨cv, hrun, hrep⟩ := ok_idx h (hT _ _ hty) hop hx hy hgs.1 hgs.2 hes hn hob
          exact val_done hrun h hrep hd (hdst d hd) hg hK.2 Q
        · cases hr
      · exact hK.elim
    · cases htr
  case index t x y =>
    obtain ⟨ty, hty, htr⟩ := opd_some htr
    split at htr
    · obtain ⟨d, hd, htr⟩ := opd_some htr
      obtain ⟨x', hx, htr⟩ := opd_some htr
      obtain ⟨y', hy, htr⟩ := opd_some htr
      cases htr
      simp only [aopG, opv] at hK
      split at hK
      · rename_i v ob gs hr
        split at hr
        · rename_i s k n hs hn
          cases hr
          obtain ⟨hgs, hob⟩ := onG_true hg hK.1
          simp only [Bool.and_eq_true] at hgs
          obtain ⟨cv, hrun, hrep⟩ := ok_sidx h (hT _ _ hty) hop hx hy hgs.1 hgs.2 hs hn hob
          exact val_done hrun h hrep hd (hdst d hd) hg hK.2 Q
        · cases hr
      · exact hK.elim
    · rename_i m zs
      obtain ⟨d, hd, htr⟩ := opd_some htr
      obtain ⟨x', hx, htr⟩ := opd_some htr
      obtain ⟨y', hy, htr⟩ := opd_some htr
      cases htr
      simp only [aopG, opv] at hK
      split at hK
      · rename_i v ob gs hr
        split at hr
        · rename_i s k n hs hn
          cases hr
          obtain ⟨hgs, hob⟩ := onG_true hg hK.1
          simp only [Bool.and_eq_true] at hgs
          obtain ⟨cv, hrun, hrep⟩ := ok_aidx h (hT _ _ hty) hop hx hy hgs.1 hgs.2 hs hn hob
          exact val_done hrun h hrep hd (hdst d hd) hg hK.2 Q
        · cases hr
      · exact hK.elim
    · cases htr
  case slice t x lo hi mx =>
    cases mx with
    | some _ => cases htr
    | none =>
    obtain ⟨ty, hty, htr⟩ := opd_some htr
    split at htr
    · cases lo with
      | none =>
        cases hi with
        | none => cases htr
        | some z =>
          obtain ⟨d, hd, htr⟩ := opd_some htr
          obtain ⟨x', hx, htr⟩ := opd_some htr
          obtain ⟨z', hz, htr⟩ := opd_some htr
          cases htr
          simp only [aopG, opv] at hK
          split at hK
          · rename_i v ob gs hr
            split at hr
            · rename_i s k l k' m hs hl hm
              cases hr
              obtain ⟨hgs, hob⟩ := onG_true hg hK.1
              simp only [Bool.and_eq_true] at hgs
              obtain ⟨cv, hrun, hrep⟩ := ok_sto h (hT _ _ hty) hop hx (.inr ⟨rfl, rfl⟩) hz hgs.1 hgs.2.1 hgs.2.2 hs hl hm hob
              exact val_done hrun h hrep hd (hdst d hd) hg hK.2 Q
            · cases hr
          · exact hK.elim
      | some y =>
        cases hi with
        | none =>
          obtain ⟨d, hd, htr⟩ := opd_some htr
          obtain ⟨x', hx, htr⟩ := opd_some htr
          obtain ⟨y', hy, htr⟩ := opd_some htr
          cases htr
          simp only [aopG, opv] at hK
          split at hK
          · rename_i v ob gs hr
            split at hr
            · rename_i s k n hs hn
              cases hr
              obtain ⟨hgs, hob⟩ := onG_true hg hK.1
              simp only [Bool.and_eq_true] at hgs
              obtain ⟨cv, hrun, hrep⟩ := ok_sfrom h (hT _ _ hty) hop hx hy hgs.1 hgs.2 hs hn hob
              exact val_done hrun h hrep hd (hdst d hd) hg hK.2 Q
            · cases hr
          · exact hK.elim
        | some z =>
          obtain ⟨d, hd, htr⟩ := opd_some htr
          obtain ⟨x', hx, htr⟩ := opd_some htr
          obtain ⟨y', hy, htr⟩ := opd_some htr
          obtain ⟨z', hz, htr⟩ := opd_some htr
          cases htr
          simp only [aopG, opv] at hK
          split at hK
          · rename_i v ob gs hr
            split at hr
            · rename_i s k l k' m hs hl hm
              cases hr
              obtain ⟨hgs, hob⟩ := onG_true hg hK.1
              simp only [Bool.and_eq_true] at hgs
              obtain ⟨cv, hrun, hrep⟩ := ok_sto h (hT _ _ hty) hop hx (.inl ⟨y, rfl, hy⟩) hz hgs.1 hgs.2.1 hgs.2.2 hs hl hm hob
              exact val_done hrun h hrep hd (hdst d hd) hg hK.2 Q
            · cases hr
          · exact hK.elim
    · cases lo with
      | none =>
        cases hi with
        | none => cases htr
        | some z =>
          obtain ⟨d, hd, htr⟩ := opd_some htr
          obtain ⟨x', hx, htr⟩ := opd_some htr
          obtain ⟨z', hz, htr⟩ := opd_some htr
          cases htr
          simp only [aopG, opv] at hK
          split at hK
          · rename_i v ob gs hr
            split at hr
            · rename_i s k l k' m hs hl hm
              cases hr
              obtain ⟨hgs, hob⟩ := onG_true hg hK.1
              simp only [Bool.and_eq_true] at hgs
              obtain ⟨cv, hrun, hrep⟩ := ok_lto h (hT _ _ hty) hop hx (.inr ⟨rfl, rfl⟩) hz hgs.1 hgs.2.1 hgs.2.2 hs hl hm hob
              exact val_done hrun h hrep hd (hdst d hd) hg hK.2 Q
            · cases hr
          · exact hK.elim
      | some y =>
        cases hi with
        | none =>
          obtain ⟨d, hd, htr⟩ := opd_some htr
          obtain ⟨x', hx, htr⟩ := opd_some htr
          obtain ⟨y', hy, htr⟩ := opd_some htr
          cases htr
          simp only [aopG, opv] at hK
          split at hK
          · rename_i v ob gs hr
            split at hr
            · rename_i s k n hs hn
              cases hr
              obtain ⟨hgs, hob⟩ := onG_true hg hK.1
              simp only [Bool.and_eq_true] at hgs
              obtain ⟨cv, hrun, hrep⟩ := ok_lfrom h (hT _ _ hty) hop hx hy hgs.1 hgs.2 hs hn hob
              exact val_done hrun h hrep hd (hdst d hd) hg hK.2 Q
            · cases hr
          · exact hK.elim
        | some z =>
          obtain ⟨d, hd, htr⟩ := opd_some htr
          obtain ⟨x', hx, htr⟩ := opd_some htr
          obtain ⟨y', hy, htr⟩ := opd_some htr
          obtain ⟨z', hz, htr⟩ := opd_some htr
          cases htr
          simp only [aopG, opv] at hK
          split at hK
          · rename_i v ob gs hr
            split at hr
            · rename_i s k l k' m hs hl hm
              cases hr
              obtain ⟨hgs, hob⟩ := onG_true hg hK.1
              simp only [Bool.and_eq_true] at hgs
              obtain ⟨cv, hrun, hrep⟩ := ok_lto h (hT _ _ hty) hop hx (.inl ⟨y, rfl, hy⟩) hz hgs.1 hgs.2.1 hgs.2.2 hs hl hm hob
              exact val_done hrun h hrep hd (hdst d hd) hg hK.2 Q
            · cases hr
          · exact hK.elim
    · cases htr
  case extract x i =>
    obtain ⟨d, hd, htr⟩ := opd_some htr
    obtain ⟨x', hx, htr⟩ := opd_some htr
    cases htr
    simp only [aopG, opv] at hK
    split at hK
    · rename_i v ob gs hr
      split at hr
      · rename_i vs hvs
        cases hr
        obtain ⟨hgs, hob⟩ := onG_true hg hK.1
        obtain ⟨cv, hrun, hrep⟩ := ok_ext h hop hx hgs hvs hob
        exact val_done hrun h hrep hd (hdst d hd) hg hK.2 Q
      · cases hr
    · exact hK.elim
  case makeFunc fn first caps =>
    split at htr
    · rename_i f
      split at htr
      · rename_i hfirst
        obtain ⟨d, hd, htr⟩ := opd_some htr
        obtain ⟨xs, hxs, htr⟩ := opd_some htr
        cases htr
        simp only [aopG, opv] at hK
        obtain ⟨hgs, _⟩ := onG_true hg hK.1
        have hf : first = #[] := by simpa using hfirst
        subst hf
        obtain ⟨cv, hrun, hrep⟩ := ok_mkf h hop hxs hgs
        exact val_done hrun h hrep hd (hdst d hd) hg hK.2 Q
      · cases htr
    · cases htr
  case alloc t =>
    obtain ⟨d, hd, htr⟩ := opd_some htr
    obtain ⟨ty, hty, htr⟩ := opd_some htr
    cases htr
    simp only [aopG] at hK
    obtain ⟨⟨rfl, hm⟩, hK⟩ := hK
    obtain ⟨ti, z, hi, hz, _, _, _, hzs⟩ := ty_facts (hT _ _ hty)
    obtain ⟨ρ', hle, hb, hs⟩ := h.newBox hm (zOks_rep w S ρ hzs) t
    have hrun : (execOp (Act.eval ⟨tmps, c.ds⟩) o).run c.P w = .ok (.value (.pointer (some ⟨w.heap.size, 0, none⟩))) (w.alloc (.cells z.cells t)) := by
      unfold execOp
      simp [hop, Instr.alloc, run_zero hi hz, newVar, newRow]
    exact val_done (v := .ptr d 0) hrun hs ⟨_, hb, rfl⟩ hd (hdst d hd) (.inl rfl) hK Q
  case box t x =>
    obtain ⟨d, hd, htr⟩ := opd_some htr
    obtain ⟨x', hx, htr⟩ := opd_some htr
    cases htr
    simp only [aopG] at hK
    obtain ⟨⟨rfl, hgx, hsol, hm⟩, hK⟩ := hK
    have hrep := solid_cells (h.ev (ds := c.ds) hx hgx) hsol
    obtain ⟨ρ', hle, hb, hs⟩ := h.newBox hm hrep t
    have hrun : (execOp (Act.eval ⟨tmps, c.ds⟩) o).run c.P w = .ok (.value (.pointer (some ⟨w.heap.size, 0, none⟩))) (w.alloc (.cells (Act.eval ⟨tmps, c.ds⟩ x).cells t)) := by
      unfold execOp
      simp [hop, Instr.box, newVar, newRow]
    exact val_done (v := .ptr d 0) hrun hs ⟨_, hb, rfl⟩ hd (hdst d hd) (.inl rfl) hK Q
  case store t x y =>
    split at htr
    · rename_i hdn
      obtain ⟨ty, hty, htr⟩ := opd_some htr
      obtain ⟨x', hx, htr⟩ := opd_some htr
      obtain ⟨y', hy, htr⟩ := opd_some htr
      cases htr
      simp only [aopG] at hK
      split at hK
      · rename_i s off hp
        split at hK
        · rename_i cs hcs
          obtain ⟨⟨rfl, g1, g2, g3, g4, g5, g6⟩, hK⟩ := hK
          obtain ⟨w', hrun, hs⟩ := ok_st h (hT _ _ hty) hop hx hy hp hcs g1 g2 g3 g4 g5 g6
          unfold Oper.wp
          rw [hrun]
          simp only [Oper.upon_skip, Act.put, hdn]
          exact ⟨rfl, _, _, _, hs, hK⟩
        · exact hK.elim
      · exact hK.elim
    · cases htr
  case makeMap t rs =>
    cases rs with
    | some _ => cases htr
    | none =>
    obtain ⟨ty, hty, htr⟩ := opd_some htr
    split at htr
    · rename_i k e kz ez
      obtain ⟨d, hd, htr⟩ := opd_some htr
      cases htr
      simp only [aopG] at hK
      obtain ⟨⟨rfl, hm⟩, hK⟩ := hK
      obtain ⟨ρ', hrun, hb, hs⟩ := ok_mkm (ds := c.ds) (k := k) (e := e) h hop hm
      exact val_done (v := .mref d) hrun hs ⟨_, hb, rfl⟩ hd (hdst d hd) (.inl rfl) hK Q
    · cases htr
  case mapUpdate t x y z =>
    split at htr
    · rename_i hdn
      obtain ⟨ty, hty, htr⟩ := opd_some htr
      split at htr
      · obtain ⟨x', hx, htr⟩ := opd_some htr
        obtain ⟨y', hy, htr⟩ := opd_some htr
        obtain ⟨z', hz, htr⟩ := opd_some htr
        cases htr
        simp only [aopG] at hK
        split at hK
        · rename_i s kd vd ex ey ez'
          split at hK
          · rename_i k' e' kvs hm
            obtain ⟨⟨rfl, g1, g2, g3, rfl, rfl, g6, g7, g8, g9⟩, hK⟩ := hK
            obtain ⟨w', hrun, hs⟩ := ok_mput h (hT _ _ hty) hop hx hy hz ex ey ez' hm g1 g2 g3 g6 g7 g8 g9
            unfold Oper.wp
            rw [hrun]
            simp only [Oper.upon_skip, Act.put, hdn]
            exact ⟨rfl, _, _, _, hs, hK⟩
          · exact hK.elim
        · exact hK.elim
      · cases htr
    · cases htr
  case lookup t x y ok =>
    obtain ⟨ty, hty, htr⟩ := opd_some htr
    split at htr
    · rename_i k e kz ez
      obtain ⟨d, hd, htr⟩ := opd_some htr
      obtain ⟨x', hx, htr⟩ := opd_some htr
      obtain ⟨y', hy, htr⟩ := opd_some htr
      cases htr
      simp only [aopG] at hK
      split at hK
      · rename_i v ob gs hr
        obtain ⟨hgs, hob⟩ := onG_true hg hK.1
        obtain ⟨cv, hrun, hrep⟩ := ok_mget h (hT _ _ hty) hop hx hy (r := (v, ob, gs)) (by rw [hG] at hr; simpa only [opv] using hr) hob hgs
        exact val_done hrun h hrep hd (hdst d hd) hg hK.2 Q
      · exact hK.elim
    · cases htr
  case call cl =>
    obtain ⟨callee, args, argTypes⟩ := cl
    cases callee <;> simp only [trCall, Option.bind_eq_bind, Option.pure_def, reduceCtorEq] at htr
    case value f =>
      obtain ⟨f', hf, htr⟩ := opd_some htr
      obtain ⟨xs, hxs, htr⟩ := opd_some htr
      cases htr
      simp only [aopG] at hK
      split at hK
      · rename_i fid caps hfv
        split at hK
        · rename_i cvs hcvs
          obtain ⟨r, hpre, hK⟩ := hK
          obtain ⟨hgf, hgs, hCr⟩ := onG_true hg hpre
          have hEv := hC _ _ _ hCr
          obtain ⟨fn, hfn, hname, hbody⟩ := hEv.enters
          have e1 := h.ev (ds := c.ds) hf hgf
          rw [hfv] at e1
          obtain ⟨cs, hv, hcaps⟩ := e1
          have e2 := toCVs_rep (through_nil (w := w) (S := S) (ρ := ρ)) 1 (h.evs (ds := c.ds) hxs hgs) hcvs
          have hrun : (execOp (Act.eval ⟨tmps, c.ds⟩) o).run c.P w = .ok (.enter fid (args.map (Act.eval ⟨tmps, c.ds⟩) ++ cs)) w := by
            unfold execOp
            simp only [hop]
            have hname' : ¬ fn.name = "runtime.NumGoroutine" := by simpa using hname
            have hbody' : ¬ fn.body = none := by intro e; simp [e] at hbody
            simp [resolve, invoke, callFunc, Deferred.ofValue, hv, hfn, hname', hbody']
          unfold Oper.wp
          rw [hrun, Oper.upon_enter]
          have hargs : RepCL w S (cvs ++ caps.map .one) (args.map (Act.eval ⟨tmps, c.ds⟩) ++ cs).toList := by
            simp only [Array.toList_append, Array.toList_map]
            exact RepCL.append e2 (RepL.toCL hcaps)
          cases hro : r.isOwn with
          | true =>
            cases r <;> simp only [CV.isOwn, Bool.false_eq_true] at hro
            rename_i a sz es
            cases hd : o.dst with
            | none => rw [hd] at hK; exact hK.elim
            | some d =>
            rw [hd] at hK
            obtain ⟨⟨rfl, hdn, hao⟩, hK⟩ := hK
            obtain ⟨X, g1, g2, g3⟩ := h.takes (cl := cs.toList) (caps := caps.map .one) (h.evs (ds := c.ds) hxs hgs) hcvs hao
            refine ((hEv : EvOwn _ _ _ _ _ _ _).2 w S (args.map (Act.eval ⟨tmps, c.ds⟩) ++ cs) X h.live ⟨h.glob, h.exact⟩ hargs (by
              simp only [Array.toList_append, Array.toList_map]; exact g1)).mono ?_
            rintro e w' ⟨v, S', rfl, hv, hlen, hroom, hbel, hkeep, hS', hlive⟩
            obtain ⟨ρ', hs, hrep⟩ := g2.gotOwn g3 hbel hkeep hS' hlive hv hlen hroom (d := d) (getT_use hdn)
            simp only [Act.put, hd]
            exact ⟨rfl, _, _, _, hs.put (hdst d hd) hrep none (fun b hb => by cases hb), hK⟩
          | false =>
          have hcalls := (hEv.data hro).2
          have hK : K (match o.dst with | some d => st.put g d r.toAV0 | none => st) := by
            cases r <;> simp only [CV.isOwn, Bool.true_eq_false] at hro <;> exact hK
          refine (hcalls w S (args.map (Act.eval ⟨tmps, c.ds⟩) ++ cs) h.live ⟨h.glob, h.exact⟩ hargs).mono ?_
          rintro e w' ⟨v, S', rfl, hr, hbel, hS, hS', hlive⟩
          have hs := h.grow hbel hS hS' hlive
          simp only [Act.put]
          cases hd : o.dst with
          | none =>
            rw [hd] at hK
            exact ⟨rfl, _, _, _, hs, hK⟩
          | some d =>
            rw [hd] at hK
            refine ⟨rfl, _, _, _, hs.put (hdst d hd) (RepC.toAV hr) g ?_, hK⟩
            rintro b hb rfl
            rcases hg with hg | hg <;> rw [hg] at hb <;> cases hb
        · exact hK.elim
      · exact hK.elim
    case builtin b =>
      by_cases hbc : b = .clear
      · subst hbc
        simp only at htr
        unfold trClear at htr
        split at htr
        · rename_i x t tys hdn h1 h2
          have hargs : args = #[x] := Array.toList_inj.1 (by simpa using h1)
          have htys : argTypes = (t :: tys).toArray := Array.toList_inj.1 (by simpa using h2)
          subst hargs htys
          obtain ⟨ty, hty, htr⟩ := opd_some htr
          split at htr
          · obtain ⟨x', hx, htr⟩ := opd_some htr
            cases htr
            simp only [aopG] at hK
            split at hK
            · rename_i s ex
              split at hK
              · rename_i k e kvs hm
                obtain ⟨⟨rfl, g1⟩, hK⟩ := hK
                obtain ⟨w', hrun, hs⟩ := ok_mclr h (hT _ _ hty) (tys := tys) (ds := c.ds) hop hdn hx ex hm g1
                unfold Oper.wp
                rw [hrun]
                simp only [Oper.upon_value, Act.put, hdn]
                exact ⟨rfl, _, _, _, hs, hK⟩
              · exact hK.elim
            · exact hK.elim
          · cases htr
        · cases htr
      replace htr : (o.dst >>= fun d => trBuiltin T d b args.toList argTypes.toList) = some i := by cases b <;> first | exact htr | exact absurd rfl hbc
      obtain ⟨d, hd, htr'⟩ := opd_some htr
      clear htr
      have htr := htr'
      clear htr'
      unfold trBuiltin at htr
      split at htr
      · rename_i x t tys h1 h2
        have hargs : args = #[x] := Array.toList_inj.1 (by simpa using h1)
        have htys : argTypes = (t :: tys).toArray := Array.toList_inj.1 (by simpa using h2)
        subst hargs htys
        obtain ⟨ty, hty, htr⟩ := opd_some htr
        split at htr
        · obtain ⟨x', hx, htr⟩ := opd_some htr
          cases htr
          simp only [aopG] at hK
          split at hK
          · rename_i n hn
            have hgx := onG_true hg hK.1
            obtain ⟨hrun, hle⟩ := ok_len_slice h (hT _ _ hty) (tys := tys) hop hx hgx hn
            refine val_done (v := .d (.int .i64 n)) hrun h rfl hd (hdst d hd) hg (hK.2 ?_) Q
            rcases hg with rfl | rfl
            · exact hle
            · exact fun _ => hle
          · exact hK.elim
        · obtain ⟨x', hx, htr⟩ := opd_some htr
          cases htr
          simp only [aopG] at hK
          split at hK
          · rename_i n hn
            have hgx := onG_true hg hK.1
            obtain ⟨hrun, hle⟩ := ok_len_str h (hT _ _ hty) (tys := tys) hop hx hgx hn
            refine val_done (v := .d (.int .i64 n)) hrun h rfl hd (hdst d hd) hg (hK.2 ?_) Q
            rcases hg with rfl | rfl
            · exact hle
            · exact fun _ => hle
          · exact hK.elim
        · cases htr
      · rename_i x y h1
        have hargs : args = #[x, y] := Array.toList_inj.1 (by simpa using h1)
        subst hargs
        obtain ⟨x', hx, htr⟩ := opd_some htr
        obtain ⟨y', hy, htr⟩ := opd_some htr
        cases htr
        simp only [aopG, opv] at hK
        split at hK
        · rename_i v ob gs hr
          split at hr
          · rename_i k p k' q hp hq
            cases hr
            obtain ⟨hgs, _⟩ := onG_true hg hK.1
            simp only [Bool.and_eq_true] at hgs
            obtain ⟨cv, hrun, hrep⟩ := ok_max h hop hx hy hgs.1 hgs.2 hp hq
            exact val_done hrun h hrep hd (hdst d hd) hg hK.2 Q
          · cases hr
        · exact hK.elim
      · rename_i x y h1
        have hargs : args = #[x, y] := Array.toList_inj.1 (by simpa using h1)
        subst hargs
        obtain ⟨x', hx, htr⟩ := opd_some htr
        obtain ⟨y', hy, htr⟩ := opd_some htr
        cases htr
        simp only [aopG, opv] at hK
        split at hK
        · rename_i v ob gs hr
          split at hr
          · rename_i k p k' q hp hq
            cases hr
            obtain ⟨hgs, _⟩ := onG_true hg hK.1
            simp only [Bool.and_eq_true] at hgs
            obtain ⟨cv, hrun, hrep⟩ := ok_min h hop hx hy hgs.1 hgs.2 hp hq
            exact val_done hrun h hrep hd (hdst d hd) hg hK.2 Q
          · cases hr
        · exact hK.elim
      · rename_i x y t t' h1 h2
        have hargs : args = #[x, y] := Array.toList_inj.1 (by simpa using h1)
        have htys : argTypes = #[t, t'] := Array.toList_inj.1 (by simpa using h2)
        subst hargs htys
        obtain ⟨ty, hty, htr⟩ := opd_some htr
        split at htr
        · rename_i esz eb
          split at htr
          · rename_i htt
            obtain ⟨x', hx, htr⟩ := opd_some htr
            obtain ⟨y', hy, htr⟩ := opd_some htr
            cases htr
            subst htt
            simp only [aopG] at hK
            split at hK
            · exact hK.elim
            · rename_i ys hys
              have fin : ∀ (es : List (List D)) (stk : St) (h' : Sim c stk tmps w S ρ) (hslots : stk.slots = st.slots) (base : Option Addr) (n cap : Nat),
                  g = none → getT stk.tk d = none → gd st y' = true → Act.eval ⟨tmps, c.ds⟩ x = .slice base n cap → Rep w S (.lst es) (.slice base n cap) → (∀ e ∈ es, e.length = esz) → (∀ e ∈ ys, e.length = esz) → (es.length + ys.length) * eb ≤ 2 ^ 46 → es.length + ys.length ≤ 9223372036854775807 →
                  (n = cap ∨ ∃ b, base = some ⟨b, 0, none⟩ ∧ c.Own b ∧ (∃ cur e, w.heap[b]? = some (.cells cur e (0, 0)) ∧ cur.size = cap * esz) ∧
                    (∀ o, n * esz ≤ o → ¬ S b o) ∧ (∀ s, ρ.box s ≠ some b) ∧ ∀ t' b' y, getT stk.tk t' = some true → ρ.tok t' = some (some ⟨b', 0, none⟩, y) → y.1 ≠ y.2.1 → b' ≠ b) →
                  K { (stk.put none d (.own d esz (es ++ ys))) with tk := (d, true) :: stk.tk } → o.wp c.P ⟨tmps, c.ds⟩ w (Goes c K) Q := by
                intro es stk h' hslots base n cap hg0 hdn hgy hxv hrep hes hys' hby h63 hsp hKK
                have e2 := elems_rep (h.ev (ds := c.ds) hy hgy) hys
                have hyv : ∃ b2 m2 c2, Act.eval ⟨tmps, c.ds⟩ y = .slice b2 m2 c2 := by obtain ⟨b2, c2, hv2, _⟩ := e2; exact ⟨b2, _, c2, hv2⟩
                obtain ⟨b2, m2, c2, hyv⟩ := hyv
                rw [hyv] at e2
                obtain ⟨v', w', S', ρ', hrun, hs, hr⟩ := app_core (ty := o.type) h' (hT _ _ hty) hdn hrep e2 hes hys' hby h63 hsp
                have hrun' : (execOp (Act.eval ⟨tmps, c.ds⟩) o).run c.P w = .ok (.value v') w' := by
                  unfold execOp
                  simp [hop, resolve, invoke, builtin, hxv, hyv, hrun]
                exact val_done hrun' hs hr hd (hdst d hd) (.inl rfl) hKK Q
              split at hK
              · rename_i es hes
                obtain ⟨⟨hg0, g1, g2, g3, g4, g5, g6, g7⟩, hK⟩ := hK
                have e1 := h.ev (ds := c.ds) hx g2
                rw [hes] at e1
                obtain ⟨hrep, base, n, hv⟩ := e1
                rw [hv] at hrep
                exact fin es st h rfl base n n hg0 g1 g3 hv hrep g4 g5 g6 g7 (.inl rfl) hK
              · rename_i u sz es hes
                obtain ⟨⟨hg0, g1, g1', rfl, g2, g3, g5, g6, g7⟩, hK⟩ := hK
                have e1 := h.ev (ds := c.ds) hx g2
                rw [hes] at e1
                obtain ⟨hrep, hlen, base, n, cap, hρ, hv⟩ := e1
                rw [hv] at hrep
                refine fin es { st with tk := tkKill u st.tk } (h.kill u) rfl base n cap hg0 (getT_kill_none.2 g1) g3 hv hrep hlen g5 g6 g7 ?_ hK
                obtain ⟨x, m1, m2⟩ := h.tok u g1'
                obtain rfl := Option.some.inj (hρ.symm.trans m1)
                rcases m2 with m2 | ⟨b, k0, k1, k2, k3, k4, k5, k6, k7⟩
                · exact .inl m2
                · exact .inr ⟨b, k0, k1, k2, k5, k6, fun t' b' y a1 a2 a3 => k7 t' b' y (getT_kill_true a1).2 (getT_kill_true a1).1 a2 a3⟩
              · exact hK.elim
          · cases htr
        · cases htr
      · cases htr
end Go.Abs
end
section
set_option linter.unusedSimpArgs false
set_option linter.unusedVariables false
set_option linter.unusedSectionVars false
namespace Go.Abs
open Go.RowKit
variable {c : Ctx} {st : St} {tmps : Array Value} {w : World} {S : Safe} {ρ : Rho} {E : AEnv} {T : Nat → Option Ty}

/-- the slot that an abstract operation writes is the operation's own -/
def DstIs (dst : Option Nat) : I → Prop
  | .call d _ _ => dst = d
  | .st _ _ _ => dst = none
  | .mput _ _ _ _ _ _ => dst = none
  | .mclr _ => dst = none
  | i => dst = some (dstOf i)
theorem trOp_dst {dst : Option Nat} {op : Op} {i : I} (htr : trOp T dst op = some i) : DstIs dst i := by
  cases op <;> simp only [trOp, Option.bind_eq_bind, Option.pure_def, reduceCtorEq] at htr
  case call cl =>
    obtain ⟨callee, args, argTypes⟩ := cl
    cases callee <;> simp only [trCall, Option.bind_eq_bind, Option.pure_def, reduceCtorEq] at htr
    case value f =>
      obtain ⟨f', hf, htr⟩ := opd_some htr
      obtain ⟨xs, hxs, htr⟩ := opd_some htr
      cases htr; rfl
    case builtin b =>
      by_cases hbc : b = .clear
      · subst hbc
        simp only at htr
        unfold trClear at htr
        split at htr
        · obtain ⟨ty, hty, htr⟩ := opd_some htr
          split at htr
          · obtain ⟨x', hx, htr⟩ := opd_some htr
            cases htr; rfl
          · cases htr
        · cases htr
      replace htr : (dst >>= fun d => trBuiltin T d b args.toList argTypes.toList) = some i := by cases b <;> first | exact htr | exact absurd rfl hbc
      obtain ⟨d, hd, htr⟩ := opd_some htr
      unfold trBuiltin at htr
      repeat' (first | (cases htr; exact hd) | (obtain ⟨_, _, htr⟩ := opd_some htr) | split at htr)
      all_goals cases htr
  case binOp op t x y t' =>
    unfold trBin at htr
    split at htr
    · obtain ⟨ty, hty, htr⟩ := opd_some htr
      split at htr
      · obtain ⟨d, hd, htr⟩ := opd_some htr
        obtain ⟨x', hx, htr⟩ := opd_some htr
        cases htr; exact hd
      · cases htr
    · split at htr
      · obtain ⟨d, hd, htr⟩ := opd_some htr
        obtain ⟨x', hx, htr⟩ := opd_some htr
        obtain ⟨y', hy, htr⟩ := opd_some htr
        cases htr; exact hd
      · obtain ⟨d, hd, htr⟩ := opd_some htr
        obtain ⟨x', hx, htr⟩ := opd_some htr
        obtain ⟨y', hy, htr⟩ := opd_some htr
        cases htr; exact hd
  case unOp u t x =>
    unfold trUn at htr
    cases u
    case neg =>
      obtain ⟨ty, hty, htr⟩ := opd_some htr
      split at htr
      · obtain ⟨d, hd, htr⟩ := opd_some htr
        obtain ⟨x', hx, htr⟩ := opd_some htr
        cases htr; exact hd
      · cases htr
    case not =>
      obtain ⟨d, hd, htr⟩ := opd_some htr
      obtain ⟨x', hx, htr⟩ := opd_some htr
      cases htr; exact hd
    all_goals cases htr
  case pick x y z =>
    obtain ⟨d, hd, htr⟩ := opd_some htr
    unfold trPick at htr
    repeat' (first | (cases htr; exact hd) | (obtain ⟨_, _, htr⟩ := opd_some htr) | split at htr)
    all_goals cases htr
  case makeMap t rs =>
    cases rs with
    | some _ => cases htr
    | none =>
    obtain ⟨_, _, htr⟩ := opd_some htr
    split at htr
    · obtain ⟨_, _, htr⟩ := opd_some htr
      cases htr; assumption
    · cases htr
  case mapUpdate =>
    split at htr
    · obtain ⟨_, _, htr⟩ := opd_some htr
      split at htr
      · obtain ⟨_, _, htr⟩ := opd_some htr
        obtain ⟨_, _, htr⟩ := opd_some htr
        obtain ⟨_, _, htr⟩ := opd_some htr
        cases htr; rfl
      · cases htr
    · cases htr
  case store =>
    split at htr
    · rename_i hd
      obtain ⟨_, _, htr⟩ := opd_some htr
      obtain ⟨_, _, htr⟩ := opd_some htr
      obtain ⟨_, _, htr⟩ := opd_some htr
      cases htr; rfl
    · cases htr
  case slice t x lo hi mx =>
    cases mx with
    | some _ => cases htr
    | none =>
    obtain ⟨_, _, htr⟩ := opd_some htr
    cases lo <;> cases hi
    all_goals
      repeat' (first | (cases htr; rfl) | (cases htr; assumption) | (obtain ⟨_, _, htr⟩ := opd_some htr) | split at htr)
    all_goals cases htr
  all_goals
    repeat' (first | (cases htr; rfl) | (cases htr; assumption) | (obtain ⟨_, _, htr⟩ := opd_some htr) | split at htr)
  all_goals cases htr

/-- an operation that is not wanted -/
theorem skip_sound {o : Oper} {i : I} (htr : trOp T o.dst o.op = some i) {K : St → Prop} (hK : aopG E (some false) i st K) : (∃ d v, o.dst = some d ∧ K (st.put (some false) d v)) ∨ (o.dst = none ∧ K st) := by
  have hd := trOp_dst htr
  cases i <;> simp only [aopG, DstIs, dstOf] at hK hd
  case alloc => exact absurd hK.1.1 (by simp)
  case box => exact absurd hK.1.1 (by simp)
  case st =>
    split at hK
    · split at hK
      · exact absurd hK.1.1 (by simp)
      · exact hK.elim
    · exact hK.elim
  case app =>
    split at hK
    · exact hK.elim
    · split at hK
      · exact absurd hK.1.1 (by simp)
      · exact absurd hK.1.1 (by simp)
      · exact hK.elim
  case len d str x =>
    split at hK
    · exact .inl ⟨_, _, hd, hK.2 (fun h => by cases h)⟩
    · exact hK.elim
  case call d f args =>
    split at hK
    · split at hK
      · obtain ⟨r, _, hK⟩ := hK
        cases d with
        | none =>
          cases r with
          | own a sz es => exact hK.elim
          | one x => exact .inr ⟨hd, hK⟩
          | agg x => exact .inr ⟨hd, hK⟩
          | tup x => exact .inr ⟨hd, hK⟩
        | some d =>
          cases r with
          | own a sz es => exact absurd hK.1.1 (by simp)
          | one x => exact .inl ⟨d, _, hd, hK⟩
          | agg x => exact .inl ⟨d, _, hd, hK⟩
          | tup x => exact .inl ⟨d, _, hd, hK⟩
      · exact hK.elim
    · exact hK.elim
  case isnil d x =>
    split at hK
    · exact .inl ⟨_, _, hd, hK.2 false (fun h => by cases h)⟩
    · exact hK.elim
  case mkm => exact absurd hK.1.1 (by simp)
  case mput =>
    split at hK
    · split at hK
      · exact absurd hK.1.1 (by simp)
      · exact hK.elim
    · exact hK.elim
  case mclr =>
    split at hK
    · split at hK
      · exact absurd hK.1.1 (by simp)
      · exact hK.elim
    · exact hK.elim
  case mv => exact .inl ⟨_, _, hd, hK.2⟩
  case mkf => exact .inl ⟨_, _, hd, hK.2⟩
  all_goals
    split at hK
    · exact .inl ⟨_, _, hd, hK.2⟩
    · exact hK.elim

theorem skip_sound2 {o : Oper} {i : I} (htr : trOp T o.dst o.op = some i) {K : St → Prop} (hK : K (skipK i st)) : (∃ d v, o.dst = some d ∧ K (st.put (some false) d v)) ∨ (o.dst = none ∧ K st) := by
  have hd := trOp_dst htr
  cases i <;> simp only [skipK, wrOf, DstIs, dstOf] at hK hd
  case st => exact .inr ⟨hd, hK⟩
  case mput => exact .inr ⟨hd, hK⟩
  case mclr => exact .inr ⟨hd, hK⟩
  case call d f args =>
    cases d with
    | none => exact .inr ⟨hd, hK⟩
    | some d => exact .inl ⟨d, _, hd, hK⟩
  all_goals exact .inl ⟨_, _, hd, hK⟩

theorem guard_sound (h : Sim c st tmps w S ρ) {ops : Array Oper} {o : Oper} {gi : Option (Nat × Bool)} (htg : trGuard ops.toList o.guard = some gi) {g : Option Bool} (hg : guardOf st gi = some g) :
    (Region.wanted o (yielded ops tmps) = true ∧ (g = none ∨ g = some true)) ∨ (Region.wanted o (yielded ops tmps) = false ∧ g = some false) := by
  unfold Region.wanted
  cases hgu : o.guard with
  | none =>
    rw [hgu] at htg
    simp only [trGuard, Option.some.injEq] at htg
    subst htg
    simp only [guardOf, Option.some.injEq] at hg
    exact .inl ⟨rfl, .inl hg.symm⟩
  | some jw =>
    obtain ⟨j, want⟩ := jw
    rw [hgu] at htg
    simp only [trGuard, Option.bind_eq_bind, Option.pure_def, Option.bind_eq_some_iff, Option.some.injEq] at htg
    obtain ⟨oj, hoj, s, hs, rfl⟩ := htg
    have hy : yielded ops tmps j = match tmps[s]? with | some (.bool b) => some b | _ => none := by
      unfold yielded
      have : ops[j]? = some oj := by simpa using hoj
      simp [this, hs]
      rfl
    have hsl := h.slots s
    simp only [guardOf] at hg
    simp only
    rw [hy]
    split at hg
    · rename_i b hb
      cases hg
      rw [hb] at hsl
      have ht : tmps[s]? = some (.bool b) := by
        simp only [RepA, Rep] at hsl
        cases hh : tmps[s]? with
        | none => rw [Array.getD_eq_getD_getElem?, hh] at hsl; cases hsl
        | some v => rw [Array.getD_eq_getD_getElem?, hh] at hsl; simp at hsl; rw [hsl]
      simp only [ht]
      cases b <;> cases want <;> simp
    · rename_i g0 b hb
      cases hg
      rw [hb] at hsl
      obtain ⟨h1, h2⟩ := hsl
      cases g0 with
      | true =>
        have hsl := h1 rfl
        have ht : tmps[s]? = some (.bool b) := by
          simp only [RepA, Rep] at hsl
          cases hh : tmps[s]? with
          | none => rw [Array.getD_eq_getD_getElem?, hh] at hsl; cases hsl
          | some v => rw [Array.getD_eq_getD_getElem?, hh] at hsl; simp at hsl; rw [hsl]
        simp only [ht]
        cases b <;> cases want <;> simp
      | false =>
        have hsl := h2 rfl
        have ht : (match tmps[s]? with | some (.bool b) => some b | _ => none : Option Bool) = none := by
          cases hh : tmps[s]? with
          | none => rfl
          | some v => rw [Array.getD_eq_getD_getElem?, hh] at hsl; simp at hsl; rw [hsl]; rfl
        rw [ht]
        simp
    · cases hg

/-- a fence that lets in whatever there is -/
structure FW (F : Fence) : Prop where
  fn : ∀ f, F.fn f
  depth : F.depth = none
  alive : F.alive = false
theorem FW.wide : FW Fence.wide := ⟨fun _ => trivial, rfl, rfl⟩
theorem FW.inRound {F : Fence} (h : FW F) (l : Nat) : FW (F.inRound l) := ⟨h.fn, h.depth, h.alive⟩
theorem fenced_fw {F : Fence} (hF : FW F) (P : Program) (m : Machine) : m.fenced P F := by
  intro g _
  refine ⟨fun h => ?_, Or.inl (hF.fn _), fun _ _ => hF.fn _, fun _ h => ?_⟩
  · rw [hF.alive] at h; cases h
  · rw [hF.depth] at h; cases h
theorem stepsIn_fw {F : Fence} (hF : FW F) {P : Program} {m m' : Machine} (h : Steps P m m') : StepsIn (Machine.fenced P F) P m m' := (StepsIn.of_steps h).mono fun m _ => fenced_fw hF P m
theorem comesIn_fw {F : Fence} (hF : FW F) {P : Program} {m m' : Machine} {e : Ending} (h : Comes P m m' e) : ComesIn (Machine.fenced P F) P m m' e := by
  cases e with
  | returned v => exact stepsIn_fw hF h
  | panicked chain => exact stepsIn_fw hF h
  | outgrown => exact h
theorem callsIn_fw {F : Fence} (hF : FW F) {n : Nat} {P : Program} {f : FuncId} {args : Array Value} {w : World} {R : Ending → World → Prop} (h : Calls P f args w R) : CallsIn F n P f args w R :=
  ⟨hF.fn f, fun cs _ => let ⟨e, w', fr, r, s, x⟩ := h cs; ⟨e, w', fr, r, comesIn_fw hF s, x⟩⟩
theorem rowsIn_fw {F : Fence} (hF : FW F) {n : Nat} {P : Program} {row : String} {args : Array Value} {w : World} {R : Value → World → Prop} (h : Rows P row args w R) : RowsIn F n P row args w R :=
  fun c cs _ => let ⟨v, w', r, s⟩ := h c cs; ⟨v, w', r, stepsIn_fw hF s⟩
theorem wpIn_fw {F : Fence} (hF : FW F) {n : Nat} {P : Program} {o : Oper} (hnd : ∀ c, o.op ≠ .defer c) {a : Act} {w : World} {N : Act → World → Prop} {Q : Exit → Act → World → Prop} (h : o.wp P a w N Q) : o.wpIn F n P a w N Q := by
  have hd : F.depth.isSome = true → 1 ≤ n := fun h => by rw [hF.depth] at h; cases h
  unfold Oper.wp at h
  refine ⟨fun f _ => hF.fn f, ?_⟩
  rw [Oper.semAt_eq _ _ _ hnd]
  generalize (execOp a.eval o).run P w = r at *
  cases r with
  | ok x w' => cases x <;> first | exact h | exact ⟨hd, callsIn_fw hF h⟩ | exact ⟨hd, rowsIn_fw hF h⟩ | exact h.elim
  | halt x w' => cases x <;> first | exact h | exact h.elim

/-- one operation of a region, wanted or not -/
theorem wpOp_sound (hG : E.G = c.G) (hC : ∀ f args r, E.C f args r → Ev c.P c.G f args r) (hT : ∀ t ty, T t = some ty → chkTy c.P t ty = true) (h : Sim c st tmps w S ρ) {ops : Array Oper} {k : Nat} {o : Oper} (ho : ops[k]? = some o) {i : I} {gi : Option (Nat × Bool)}
    (htg : trGuard ops.toList o.guard = some gi) (htr : trOp T o.dst o.op = some i) (hdst : ∀ d, o.dst = some d → c.D d) {K : St → Prop} (hK : aop E gi i st K) {N : Act → World → Prop} (hN : ∀ a w, Goes c K a w → N a w) (Q : Exit → Act → World → Prop) {F : Fence} (hF : FW F) (n : Nat) :
    wpOpIn F n c.P ops Q k N ⟨tmps, c.ds⟩ w := by
  have hnd : ∀ c, o.op ≠ .defer c := by intro c hc; rw [hc] at htr; cases htr
  unfold aop at hK
  split at hK
  · exact hK.elim
  · rename_i g hg
    unfold wpOpIn
    simp only [ho]
    rcases guard_sound h htg hg with ⟨hw, hgt⟩ | ⟨hw, rfl⟩
    · rw [if_pos hw]
      have hK := (aopW_iff hK).resolve_right fun hs => by
        have := hs.1
        rcases hgt with rfl | rfl <;> cases this
      exact wpIn_fw hF hnd (Oper.wp_mono hN (op_sound hG hC hT h htr hdst hgt hK Q))
    · rw [if_neg (by rw [hw]; simp)]
      refine ⟨fun f _ => hF.fn f, hN _ _ ?_⟩
      have hK : (∃ d v, o.dst = some d ∧ K (st.put (some false) d v)) ∨ (o.dst = none ∧ K st) := by
        rcases aopW_iff hK with hK | hK
        · exact skip_sound htr hK
        · exact skip_sound2 htr hK.2
      rcases hK with ⟨d, v, hd, hK⟩ | ⟨hd, hK⟩
      · simp only [Act.put, hd]
        exact ⟨rfl, _, _, _, h.putSkip (hdst d hd) v, hK⟩
      · simp only [Act.put, hd]
        exact ⟨rfl, _, _, _, h, hK⟩

theorem trOps_get {ops : List Oper} {l : List (Option (Nat × Bool) × I)} (h : trOps T ops = some l) : l.length = ops.length ∧ ∀ (k : Nat) (o : Oper), ops[k]? = some o → ∃ gi i, l[k]? = some (gi, i) ∧ trGuard ops o.guard = some gi ∧ trOp T o.dst o.op = some i := by
  have key : ∀ (all os : List Oper) (l : List (Option (Nat × Bool) × I)), (os.mapM fun (o : Oper) => do pure (← trGuard all o.guard, ← trOp T o.dst o.op)) = some l → l.length = os.length ∧ ∀ (k : Nat) (o : Oper), os[k]? = some o → ∃ gi i, l[k]? = some (gi, i) ∧ trGuard all o.guard = some gi ∧ trOp T o.dst o.op = some i := by
    intro all os
    induction os with
    | nil => intro l hl; simp at hl; subst hl; simp
    | cons o os ih =>
      intro l hl
      simp only [List.mapM_cons, Option.bind_eq_bind, Option.pure_def, Option.bind_eq_some_iff, Option.some.injEq] at hl
      obtain ⟨p, ⟨gi, hgi, i, hi, rfl⟩, l', hl', rfl⟩ := hl
      obtain ⟨h1, h2⟩ := ih l' hl'
      refine ⟨by simp [h1], fun k o' hk => ?_⟩
      cases k with
      | zero => simp at hk; subst hk; exact ⟨gi, i, rfl, hgi, hi⟩
      | succ k => simpa using h2 k o' (by simpa using hk)
  exact key ops ops l h

theorem ops_sound (hG : E.G = c.G) (hC : ∀ f args r, E.C f args r → Ev c.P c.G f args r) (hT : ∀ t ty, T t = some ty → chkTy c.P t ty = true) {ops : Array Oper} {l : List (Option (Nat × Bool) × I)} (htr : trOps T ops.toList = some l)
    (hdst : ∀ o ∈ ops.toList, ∀ d, o.dst = some d → c.D d) {F : Fence} (hF : FW F) (m : Nat) (Q : Exit → Act → World → Prop) {K : St → Prop} (hQ : ∀ a w, Goes c K a w → Q .normal a w) :
    ∀ (n k : Nat) {st : St} {tmps : Array Value} {w : World} {S : Safe} {ρ : Rho}, k + n = ops.size → Sim c st tmps w S ρ → aops E (l.drop k) K st → wpOpsIn F m c.P ops Q (List.range' k n) ⟨tmps, c.ds⟩ w := by
  obtain ⟨hlen, hget⟩ := trOps_get htr
  simp only [Array.length_toList] at hlen
  intro n
  induction n with
  | zero =>
    intro k st tmps w S ρ hk h hK
    rw [List.drop_of_length_le (by omega)] at hK
    exact hQ _ _ ⟨rfl, _, _, _, h, hK⟩
  | succ n ih =>
    intro k st tmps w S ρ hk h hK
    have hlt : k < ops.size := by omega
    obtain ⟨gi, i, hl, htg, hti⟩ := hget k ops[k] (by simp [hlt])
    have hdrop : l.drop k = (gi, i) :: l.drop (k + 1) := by
      have hkl : k < l.length := by omega
      rw [List.drop_eq_getElem_cons hkl]
      congr 1
      have := List.getElem?_eq_getElem hkl
      rw [this] at hl
      exact Option.some.inj hl
    rw [hdrop] at hK
    simp only [aops] at hK
    rw [List.range'_succ, wpOpsIn_cons]
    refine wpOp_sound hG hC hT h (Array.getElem?_eq_getElem hlt) htg hti (hdst _ (by simp)) hK ?_ Q hF m
    rintro ⟨tmps', ds'⟩ w' ⟨hds, st', S', ρ', h', hK'⟩
    simp only at hds
    subst hds
    exact ih (k + 1) (by omega) h' hK'
end Go.Abs
end
section
set_option linter.unusedSimpArgs false
set_option linter.unusedVariables false
set_option linter.unusedSectionVars false
namespace Go.Abs
open Go.RowKit
variable {c : Ctx} {st : St} {tmps : Array Value} {w : World} {S : Safe} {ρ : Rho} {E : AEnv} {T : Nat → Option Ty}

/-! ## what is known at a loop's head -/
theorem getT_cons (t : Nat) (b : Bool) (tk : List (Nat × Bool)) (t' : Nat) : getT ((t, b) :: tk) t' = if t' = t then some b else getT tk t' := by
  simp only [getT]
  by_cases h : t = t'
  · subst h; simp
  · have : ¬ t' = t := fun e => h e.symm
    simp [h, this]
theorem RepAs.get : ∀ {as : List AV} {l : List Value} {i : Nat} {a : AV}, RepAs w S ρ as l → as[i]? = some a → ∃ v, l[i]? = some v ∧ RepA w S ρ a v
  | [], _, i, a, _, h => by simp at h
  | b :: as, _, 0, a, ⟨v, r, h, h1, h2⟩, hi => by subst h; simp at hi; subst hi; exact ⟨v, rfl, h1⟩
  | b :: as, _, i + 1, a, ⟨v, r, h, h1, h2⟩, hi => by subst h; simpa using RepAs.get h2 (by simpa using hi)
theorem RepAs.set : ∀ {as : List AV} {l : List Value} {i : Nat} {a : AV} {v : Value}, RepAs w S ρ as l → l[i]? = some v → RepA w S ρ a v → RepAs w S ρ (as.set i a) l
  | [], _, i, a, v, h, _, _ => by simpa using h
  | b :: as, _, 0, a, v, ⟨v', r, h, h1, h2⟩, hi, hv => by subst h; simp at hi; subst hi; exact ⟨_, _, rfl, hv, h2⟩
  | b :: as, _, i + 1, a, v, ⟨v', r, h, h1, h2⟩, hi, hv => by subst h; exact ⟨_, _, rfl, h1, RepAs.set h2 (by simpa using hi) hv⟩

theorem conv1_sound (h : Sim c st tmps w S ρ) {p : Place × Nat × Nat} {st' : St} (hc : conv1 st p st') : ∃ ρ', Sim c st' tmps w S ρ' := by
  obtain ⟨pl, t, sz⟩ := p
  have htk : ∀ t', getT ((t, true) :: st.tk) t' = if t' = t then some true else if some t' = (none : Option Nat) then (getT st.tk t').map (fun _ => false) else getT st.tk t' := by
    intro t'; rw [getT_cons]; simp
  cases pl with
  | s k =>
    obtain ⟨es, h1, h2, h3, rfl⟩ := hc
    have hs := h.slots k
    rw [h1] at hs
    obtain ⟨hrep, base, n, hv⟩ := hs
    obtain ⟨ρ', hle, hρ, hs⟩ := h.newTok h3 none htk (base, n, n, sz) (.inl rfl)
    refine ⟨ρ', { hs with slots := fun k' => ?_ }⟩
    simp only [getS]
    by_cases hk : k = k'
    · subst hk
      rw [if_pos rfl]
      exact ⟨hrep, h2, base, n, n, hρ, hv⟩
    · rw [if_neg hk]; exact hs.slots k'
  | m s i =>
    obtain ⟨cs, es, h0, h1, h2, h3, rfl⟩ := hc
    have hnm : isMp cs = false := by
      cases hm : isMp cs with
      | false => rfl
      | true =>
        obtain ⟨k, e, kvs, rfl⟩ := isMp_iff.1 hm
        cases i <;> simp at h1
    obtain ⟨b, vs, e, g1, g2, g3, g4, g6⟩ := h.mem s cs h0 hnm
    obtain ⟨v, hvi, hrep, base, n, hv⟩ := RepAs.get g4 h1
    obtain ⟨ρ', hle, hρ, hs⟩ := h.newTok h3 none htk (base, n, n, sz) (.inl rfl)
    refine ⟨ρ', { hs with mem := fun s' cs' hs' hnm' => ?_, boxNew := fun s' hs' => ?_, mps := hs.mps.cons (RepAs.noMp (RepAs.set (RepAs.keep (Keeps.refl w S) hle cs _ g4) hvi ⟨hrep, h2, base, n, n, hρ, hv⟩)) }⟩
    · simp only [getM] at hs'
      split at hs'
      · rename_i hss
        subst hss
        cases hs'
        refine ⟨b, vs, e, hle.1 _ _ g1, g2, g3, RepAs.set (RepAs.keep (Keeps.refl w S) hle cs _ g4) hvi ⟨hrep, h2, base, n, n, hρ, hv⟩, g6⟩
      · exact hs.mem s' cs' hs' hnm'
    · simp only [getM] at hs'
      split at hs'
      · cases hs'
      · exact hs.boxNew s' hs'
theorem convs_sound : ∀ {ps : List (Place × Nat × Nat)} {st st' : St} {ρ : Rho}, Sim c st tmps w S ρ → convs ps st st' → ∃ ρ', Sim c st' tmps w S ρ'
  | [], st, st', ρ, h, hc => by simp only [convs] at hc; subst hc; exact ⟨ρ, h⟩
  | p :: ps, st, st', ρ, h, ⟨s1, h1, h2⟩ => by
    obtain ⟨ρ1, hs⟩ := conv1_sound h h1
    exact convs_sound hs h2

/-- what is known of boxes and tokens behind an entailment -/
def rhoOf (ρ : Rho) (m1 : Mem) (mp : TMap) : Rho := { box := fun s => if (getM m1 s).isSome then ρ.box s else none, mbox := fun s => if (getM m1 s).isSome then ρ.mbox s else none, tok := fun t => (getTM mp t).bind ρ.tok }
mutual
theorem RepA.plain {m1 : Mem} {mp : TMap} : ∀ (a : AV) (v : Value), a.plain m1 = true → RepA w S ρ a v → RepA w S (rhoOf ρ m1 mp) a v
  | .undef, _, _, _ => trivial
  | .d x, _, _, h => h
  | .agg cs, _, hp, ⟨vs, h1, h2⟩ => ⟨vs, h1, RepAs.plain cs _ (by simpa [AV.plain] using hp) h2⟩
  | .tup cs, _, hp, ⟨vs, h1, h2⟩ => ⟨vs, h1, RepAs.plain cs _ (by simpa [AV.plain] using hp) h2⟩
  | .ptr s _, _, hp, ⟨b, h1, h2⟩ => ⟨b, by simp only [AV.plain] at hp; simp [rhoOf, hp, h1], h2⟩
  | .full _, _, _, h => h
  | .own _ _ _, _, hp, _ => by simp [AV.plain] at hp
  | .mref s, _, hp, ⟨b, h1, h2⟩ => ⟨b, by simp only [AV.plain] at hp; simp [rhoOf, hp, h1], h2⟩
  | .clo _ caps, _, hp, ⟨cs, h1, h2⟩ => ⟨cs, h1, RepAs.plain caps _ (by simpa [AV.plain] using hp) h2⟩
  | .cond _ a, _, hp, ⟨h1, h2⟩ => ⟨fun hg => RepA.plain a _ (by simpa [AV.plain] using hp) (h1 hg), h2⟩
theorem RepAs.plain {m1 : Mem} {mp : TMap} : ∀ (as : List AV) (vs : List Value), AV.plains m1 as = true → RepAs w S ρ as vs → RepAs w S (rhoOf ρ m1 mp) as vs
  | [], _, _, h => h
  | a :: as, _, hp, ⟨v, r, h, h1, h2⟩ => by
    simp only [AV.plains, Bool.and_eq_true] at hp
    exact ⟨v, r, h, RepA.plain a v hp.1 h1, RepAs.plain as r hp.2 h2⟩
end
theorem EntC.sound {m1 : Mem} {mp : TMap} {a a1 : AV} {v : Value} (h : RepA w S ρ a v) (he : EntC m1 mp a a1) : RepA w S (rhoOf ρ m1 mp) a1 v := by
  cases a1 <;> simp only [EntC] at he
  case undef => trivial
  case d x =>
    split at he
    · subst he; exact h.1
    · subst he; exact h
  case own t sz es =>
    split at he
    · rename_i u hu
      subst he
      obtain ⟨h1, h2, base, n, cap, h3, h4⟩ := h
      exact ⟨h1, h2, base, n, cap, by simp [rhoOf, hu, h3], h4⟩
    · exact he.elim
  all_goals (obtain ⟨rfl, hp⟩ := he; exact RepA.plain _ _ hp h)
theorem EntCs.sound {m1 : Mem} {mp : TMap} : ∀ {as bs : List AV} {l : List Value}, RepAs w S ρ as l → EntCs m1 mp as bs → RepAs w S (rhoOf ρ m1 mp) bs l
  | [], [], _, h, _ => h
  | a :: as, b :: bs, _, ⟨v, r, h, h1, h2⟩, he => ⟨v, r, h, EntC.sound h1 he.1, EntCs.sound h2 he.2⟩
  | [], _ :: _, _, _, he => by simp [EntCs] at he
  | _ :: _, [], _, _, he => by simp [EntCs] at he
theorem EntV.sound {m1 : Mem} {mp : TMap} {a a1 : AV} {v : Value} (h : RepA w S ρ a v) (he : EntV m1 mp a a1) : RepA w S (rhoOf ρ m1 mp) a1 v := by
  unfold EntV at he
  split at he
  · split at he
    · obtain ⟨vs, h1, h2⟩ := h
      exact ⟨vs, h1, EntCs.sound h2 he⟩
    · exact he.elim
  · exact EntC.sound h he
theorem EntSlots.sound {st : St} {m1 : Mem} {mp : TMap} (h : ∀ k, RepA w S ρ (getS st.slots k) (tmps.getD k undef)) : ∀ {l : List (Nat × AV)}, EntSlots st m1 mp l → ∀ k, RepA w S (rhoOf ρ m1 mp) (getS l k) (tmps.getD k undef)
  | [], _, k => trivial
  | (k', v) :: r, he, k => by
    simp only [getS]
    by_cases hk : k' = k
    · subst hk; rw [if_pos rfl]; exact EntV.sound (h k') he.1
    · rw [if_neg hk]; exact EntSlots.sound h he.2 k
theorem EntMem.get {st : St} {m1 : Mem} {mp : TMap} : ∀ {l : Mem}, EntMem st m1 mp l → ∀ s cs1, getM l s = some cs1 → ∃ cs, getM st.mem s = some cs ∧ EntCs m1 mp cs cs1
  | [], _, s, cs1, h => by simp [getM] at h
  | (k, cs') :: r, he, s, cs1, h => by
    simp only [getM] at h
    by_cases hk : k = s
    · subst hk
      rw [if_pos rfl] at h
      cases h
      have := he.1
      split at this
      · rename_i cs hcs; exact ⟨cs, hcs, this⟩
      · exact this.elim
    · rw [if_neg hk] at h; exact EntMem.get he.2 s cs1 h
theorem mpOk_get {st : St} : ∀ {mp : TMap} {us : List Nat}, mpOk st mp us → (∀ t u, getTM mp t = some u → getT st.tk u = some true ∧ us.contains u = false) ∧ (∀ t t' u, getTM mp t = some u → getTM mp t' = some u → t = t')
  | [], _, _ => ⟨fun t u h => by simp [getTM] at h, fun t t' u h => by simp [getTM] at h⟩
  | (k, u0) :: r, us, h => by
    obtain ⟨⟨h0, h1⟩, h2⟩ := h
    obtain ⟨i1, i2⟩ := mpOk_get h2
    have hno : ∀ t u, getTM r t = some u → u ≠ u0 ∧ us.contains u = false := by
      intro t u ht
      have := (i1 t u ht).2
      simp only [List.contains_cons, Bool.or_eq_false_iff, beq_eq_false_iff_ne] at this
      exact ⟨this.1, this.2⟩
    refine ⟨fun t u ht => ?_, fun t t' u ht ht' => ?_⟩
    · simp only [getTM] at ht
      split at ht
      · cases ht; exact ⟨h1, h0⟩
      · exact ⟨(i1 t u ht).1, (hno t u ht).2⟩
    · simp only [getTM] at ht ht'
      split at ht <;> split at ht'
      · simp_all
      · cases ht; exact absurd rfl (hno t' _ ht').1
      · cases ht'; exact absurd rfl (hno t _ ht).1
      · exact i2 t t' u ht ht'
theorem getT_tkOf : ∀ (mp : TMap) (t : Nat), getT (tkOf mp) t = (getTM mp t).map fun _ => true
  | [], t => rfl
  | (k, u) :: r, t => by
    simp only [tkOf, getT, getTM]
    split
    · rfl
    · exact getT_tkOf r t
theorem EntCs.mp {m1 : Mem} {tm : TMap} {cs : List AV} {k e : Nat} {kvs : List (D × D)} (h : EntCs m1 tm cs [.mp k e kvs]) : cs = [.mp k e kvs] := by
  cases cs with
  | nil => exact h.elim
  | cons a as =>
    cases as with
    | nil => rw [h.1.1]
    | cons _ _ => exact h.2.elim
theorem EntCs.noMp {m1 : Mem} {tm : TMap} {cs cs1 : List AV} (h : EntCs m1 tm cs cs1) (h1 : isMp cs1 = false) : isMp cs = false := by
  cases hm : isMp cs with
  | false => rfl
  | true =>
    obtain ⟨k, e, kvs, rfl⟩ := isMp_iff.1 hm
    cases cs1 with
    | nil => exact h.elim
    | cons b bs =>
      cases bs with
      | cons _ _ => exact h.2.elim
      | nil =>
        have h0 := h.1
        cases b <;> simp [EntC, AV.isMp] at h0
        · split at h0 <;> cases h0
        · simp [isMp, AV.isMp] at h1
theorem Ent0.sound {mp : TMap} {st1 : St} (h : Sim c st tmps w S ρ) (he : Ent0 mp st st1) : Sim c st1 tmps w S (rhoOf ρ st1.mem mp) := by
  obtain ⟨h1, h2, h3, h4⟩ := he
  obtain ⟨m1, m2⟩ := mpOk_get h2
  refine { size := h.size, slots := EntSlots.sound h.slots h3, mem := ?_, inj := ?_, boxNew := ?_, mps := ?_, tok := ?_, tokNew := ?_, below := h.below, old := h.old, new := h.new, live := h.live, glob := h.glob, fx := h.fx, ex := h.ex, obs := h.obs, keeps := h.keeps }
  · intro s cs1 hs hnm
    obtain ⟨cs, hcs, hec⟩ := EntMem.get h4 s cs1 hs
    obtain ⟨b, vs, e, g1, g2, g3, g4, g6⟩ := h.mem s cs hcs (EntCs.noMp hec hnm)
    exact ⟨b, vs, e, by simp [rhoOf, hs, g1], g2, g3, EntCs.sound g4 hec, g6⟩
  · intro s s' b hs hs'
    simp only [rhoOf] at hs hs'
    split at hs
    · split at hs'
      · exact h.inj s s' b hs hs'
      · cases hs'
    · cases hs
  · intro s hs
    simp [rhoOf, hs]
  · refine { at' := fun s k e kvs hs => ?_, inj := fun s s' b hs hs' => ?_, new := fun s hs => by simp [rhoOf, hs], lt := fun s b hs => ?_, apart := fun s b hs => ?_ }
    · obtain ⟨cs, hcs, hec⟩ := EntMem.get h4 s _ hs
      have := EntCs.mp hec
      subst this
      obtain ⟨b, g1, g2, g3⟩ := h.mps.at' s k e kvs hcs
      exact ⟨b, by simp [rhoOf, hs, g1], by simp [rhoOf, hs, g2], g3⟩
    · simp only [rhoOf] at hs hs'
      split at hs
      · split at hs'
        · exact h.mps.inj s s' b hs hs'
        · cases hs'
      · cases hs
    · simp only [rhoOf] at hs
      split at hs
      · exact h.mps.lt s b hs
      · cases hs
    · simp only [rhoOf] at hs ⊢
      split at hs
      · rename_i hi; rw [if_pos hi]; exact h.mps.apart s b hs
      · cases hs
  · intro t ht
    rw [h1, getT_tkOf] at ht
    cases hu : getTM mp t with
    | none => simp [hu] at ht
    | some u =>
      obtain ⟨x, g1, g2⟩ := h.tok u (m1 t u hu).1
      refine ⟨x, by simp [rhoOf, hu, g1], ?_⟩
      rcases g2 with g2 | ⟨b, k0, k1, k2, k3, k4, k5, k6, k7⟩
      · exact .inl g2
      · refine .inr ⟨b, k0, k1, k2, k3, k4, k5, fun s hs => ?_, fun t' b' y hne ht' htok hy => ?_⟩
        · simp only [rhoOf] at hs
          split at hs
          · exact k6 s hs
          · cases hs
        · rw [h1, getT_tkOf] at ht'
          cases hu' : getTM mp t' with
          | none => simp [hu'] at ht'
          | some u' =>
            simp only [rhoOf, hu', Option.bind_some] at htok
            exact k7 u' b' y (fun e => hne (m2 t' t u' hu' (e ▸ hu))) (m1 t' u' hu').1 htok hy
  · intro t ht
    rw [h1, getT_tkOf] at ht
    cases hu : getTM mp t with
    | none => simp [rhoOf, hu]
    | some u => simp [hu] at ht
theorem Ent.sound {st1 : St} (h : Sim c st tmps w S ρ) (he : Ent st st1) : ∃ ρ1, Sim c st1 tmps w S ρ1 := by
  obtain ⟨ps, mp, st', h1, h2⟩ := he
  obtain ⟨ρ1, hs⟩ := convs_sound h h1
  exact ⟨_, Ent0.sound hs h2⟩
end Go.Abs
end
section
set_option linter.unusedSimpArgs false
set_option linter.unusedVariables false
set_option linter.unusedSectionVars false
namespace Go.Abs
open Go.RowKit
variable {E : AEnv} {st : St}

/-! ## regions whose order is open: an operation's effect, and that those apart may change places -/
structure Eff where
  slot : Option (Nat × AV)
  mem : Option (Nat × List AV)
  tk : Option (Nat × Option Nat)
def tkApp (tk : List (Nat × Bool)) : Option (Nat × Option Nat) → List (Nat × Bool)
  | none => tk
  | some (d, none) => (d, true) :: tk
  | some (d, some u) => (d, true) :: tkKill u tk
def Eff.app (e : Eff) (st : St) : St := { slots := e.slot.toList ++ st.slots, mem := e.mem.toList ++ st.mem, tk := tkApp st.tk e.tk }
def wrapG (g : Option Bool) (v : AV) : AV := match g with
  | none => v
  | some b => .cond b v
def appConds (st : St) (g : Option Bool) (d esz eb : Nat) (x y : X) (es ys : List (List D)) : Prop :=
  g = none ∧ getT st.tk d = none ∧ gd st x = true ∧ gd st y = true ∧ (∀ e ∈ es, e.length = esz) ∧ (∀ e ∈ ys, e.length = esz) ∧ (es.length + ys.length) * eb ≤ 2 ^ 46 ∧ es.length + ys.length ≤ 9223372036854775807
theorem argOwn_congr {tk tk1 : List (Nat × Bool)} (h : ∀ t, getT tk t = getT tk1 t) {as : List AV} {sz : Nat} {a : Option Nat} (ho : argOwn tk as sz a) : argOwn tk1 as sz a := by
  cases a with
  | none => trivial
  | some k =>
    simp only [argOwn] at ho ⊢
    split at ho
    · rename_i u sz' es hk; exact ⟨ho.1, h u ▸ ho.2⟩
    · exact ho
    · exact ho.elim
/-- what a call does to the state -/
def callE (g : Option Bool) (d : Option Nat) (tk : List (Nat × Bool)) (as : List AV) (e' : Eff) : CV → Prop
  | .own a sz es => ∃ d', d = some d' ∧ (g = none ∧ getT tk d' = none ∧ argOwn tk as sz a) ∧ e' = ⟨some (d', .own d' sz es), none, some (d', ownTok as a)⟩
  | .one x => e' = ⟨d.map fun d => (d, wrapG g (.d x)), none, none⟩
  | .agg x => e' = ⟨d.map fun d => (d, wrapG g (.agg (x.map .d))), none, none⟩
  | .tup x => e' = ⟨d.map fun d => (d, wrapG g (.tup (CV.toAV0s x))), none, none⟩
theorem callE_congr {g : Option Bool} {d : Option Nat} {tk tk1 : List (Nat × Bool)} (h : ∀ t, getT tk t = getT tk1 t) {as : List AV} {e' : Eff} {r : CV} (he : callE g d tk as e' r) : callE g d tk1 as e' r := by
  cases r with
  | own a sz es =>
    obtain ⟨d', h1, ⟨h2, h3, h4⟩, h5⟩ := he
    exact ⟨d', h1, ⟨h2, h d' ▸ h3, argOwn_congr h h4⟩, h5⟩
  | one x => exact he
  | agg x => exact he
  | tup x => exact he
def ER (E : AEnv) (gi : Option (Nat × Bool)) (o : I) (st : St) (e' : Eff) : Prop := ∃ g, guardOf st gi = some g ∧ match o with
  | .alloc s zs => g = none ∧ getM st.mem s = none ∧ e' = ⟨some (s, .ptr s 0), some (s, zs), none⟩
  | .box s x => (g = none ∧ gd st x = true ∧ (ev st x).solid = true ∧ getM st.mem s = none) ∧ e' = ⟨some (s, .ptr s 0), some (s, (ev st x).cells), none⟩
  | .st n a x => ∃ s off cs, ev st a = .ptr s off ∧ getM st.mem s = some cs ∧ (g = none ∧ gd st a = true ∧ gd st x = true ∧ (ev st x).solid = true ∧ cells1 (ev st x).cells = true ∧ (ev st x).cells.length = n ∧ off + n ≤ cs.length) ∧
      e' = ⟨none, some (s, cs.take off ++ (ev st x).cells ++ cs.drop (off + n)), none⟩
  | .mkm s k e => g = none ∧ getM st.mem s = none ∧ e' = ⟨some (s, .mref s), some (s, [.mp k e []]), none⟩
  | .mput k e kz x key v => ∃ s kd vd k' q' kvs, ev st x = .mref s ∧ ev st key = .d kd ∧ ev st v = .d vd ∧ getM st.mem s = some [.mp k' q' kvs] ∧ (g = none ∧ gd st x = true ∧ gd st key = true ∧ gd st v = true ∧ k' = k ∧ q' = e ∧ likeD kz kd = true ∧ plainD kd ∧ flatD vd = true ∧ kvs.length < 9223372036854775807) ∧
      e' = ⟨none, some (s, [.mp k e ((kd, vd) :: kvs)]), none⟩
  | .mclr x => ∃ s k e kvs, ev st x = .mref s ∧ getM st.mem s = some [.mp k e kvs] ∧ (g = none ∧ gd st x = true) ∧ e' = ⟨none, some (s, [.mp k e []]), none⟩
  | .app d esz eb x y => ∃ ys, (ev st y).elems = some ys ∧
      ((∃ es, ev st x = .full es ∧ (g = none ∧ getT st.tk d = none ∧ gd st x = true ∧ gd st y = true ∧ (∀ e ∈ es, e.length = esz) ∧ (∀ e ∈ ys, e.length = esz) ∧ (es.length + ys.length) * eb ≤ 2 ^ 46 ∧ es.length + ys.length ≤ 9223372036854775807) ∧
          e' = ⟨some (d, .own d esz (es ++ ys)), none, some (d, none)⟩) ∨
       (∃ u sz es, ev st x = .own u sz es ∧ (g = none ∧ getT st.tk d = none ∧ getT st.tk u = some true ∧ sz = esz ∧ gd st x = true ∧ gd st y = true ∧ (∀ e ∈ ys, e.length = esz) ∧ (es.length + ys.length) * eb ≤ 2 ^ 46 ∧ es.length + ys.length ≤ 9223372036854775807) ∧
          e' = ⟨some (d, .own d esz (es ++ ys)), none, some (d, some u)⟩))
  | .len d str x => ∃ n, lenOf str (ev st x) = some n ∧ onG g (gd st x = true) ∧ e' = ⟨some (d, wrapG g (.d (.int .i64 n))), none, none⟩
  | .call d f' args => ∃ f caps cvs r, ev st f' = .d (.clo f caps) ∧ toCVs [] 1 (evs st args) = some cvs ∧ onG g (gd st f' = true ∧ gds st args = true ∧ E.C f (cvs ++ caps.map .one) r) ∧ callE g d st.tk (evs st args) e' r
  | o => ∃ v ob gs, opv E.G st o = some (v, ob, gs) ∧ onG g (gs = true ∧ ob) ∧ e' = ⟨some (dstOf o, wrapG g v), none, none⟩

theorem put_app (g : Option Bool) (d : Nat) (v : AV) : st.put g d v = Eff.app ⟨some (d, wrapG g v), none, none⟩ st := by
  cases g <;> rfl

theorem callK_iff {g : Option Bool} {d : Option Nat} {K : St → Prop} {as : List AV} {r : CV} : callK g d K st as r ↔ ∃ e, callE g d st.tk as e r ∧ K (e.app st) := by
  cases r with
  | own a sz es =>
    constructor
    · intro h
      cases d with
      | none => exact h.elim
      | some d =>
        refine ⟨_, ⟨d, rfl, h.1, rfl⟩, ?_⟩
        have h2 := h.2
        cases hu : ownTok as a <;> rw [hu] at h2 <;> exact h2
    · rintro ⟨e, ⟨d', rfl, h1, rfl⟩, h2⟩
      refine ⟨h1, ?_⟩
      cases hu : ownTok as a <;> rw [hu] at h2 <;> exact h2
  | one x =>
    constructor
    · intro h
      refine ⟨_, rfl, ?_⟩
      cases d with
      | none => exact h
      | some d => simp only [Option.map_some]; rw [← put_app]; exact h
    · rintro ⟨e, rfl, h⟩
      cases d with
      | none => exact h
      | some d => simp only [Option.map_some] at h; rw [← put_app] at h; exact h
  | agg x =>
    constructor
    · intro h
      refine ⟨_, rfl, ?_⟩
      cases d with
      | none => exact h
      | some d => simp only [Option.map_some]; rw [← put_app]; exact h
    · rintro ⟨e, rfl, h⟩
      cases d with
      | none => exact h
      | some d => simp only [Option.map_some] at h; rw [← put_app] at h; exact h
  | tup x =>
    constructor
    · intro h
      refine ⟨_, rfl, ?_⟩
      cases d with
      | none => exact h
      | some d => simp only [Option.map_some]; rw [← put_app]; exact h
    · rintro ⟨e, rfl, h⟩
      cases d with
      | none => exact h
      | some d => simp only [Option.map_some] at h; rw [← put_app] at h; exact h
theorem aopN_iff {gi : Option (Nat × Bool)} {o : I} {K : St → Prop} : aopN E gi o st K ↔ ∃ e, ER E gi o st e ∧ K (e.app st) := by
  unfold aopN ER
  constructor
  · intro h
    split at h
    · exact h.elim
    · rename_i g hg
      cases o <;> simp only [aopG] at h
      case alloc => exact ⟨_, ⟨g, hg, h.1.1, h.1.2, rfl⟩, h.2⟩
      case box => exact ⟨_, ⟨g, hg, h.1, rfl⟩, h.2⟩
      case st =>
        split at h <;> try exact h.elim
        split at h <;> try exact h.elim
        exact ⟨_, ⟨g, hg, _, _, _, ‹_›, ‹_›, h.1, rfl⟩, h.2⟩
      case app =>
        split at h <;> try exact h.elim
        split at h <;> try exact h.elim
        · exact ⟨_, ⟨g, hg, _, ‹_›, .inl ⟨_, ‹_›, h.1, rfl⟩⟩, h.2⟩
        · exact ⟨_, ⟨g, hg, _, ‹_›, .inr ⟨_, _, _, ‹_›, h.1, rfl⟩⟩, h.2⟩
      case mkm => exact ⟨_, ⟨g, hg, h.1.1, h.1.2, rfl⟩, h.2⟩
      case mput k e kz x key v =>
        split at h <;> try exact h.elim
        split at h <;> try exact h.elim
        exact ⟨_, ⟨g, hg, _, _, _, _, _, _, ‹_›, ‹_›, ‹_›, ‹_›, h.1, rfl⟩, h.2⟩
      case mclr =>
        split at h <;> try exact h.elim
        split at h <;> try exact h.elim
        exact ⟨_, ⟨g, hg, _, _, _, _, ‹_›, ‹_›, h.1, rfl⟩, h.2⟩
      case len =>
        split at h <;> try exact h.elim
        exact ⟨_, ⟨g, hg, _, ‹_›, h.1, rfl⟩, by rw [← put_app]; exact h.2⟩
      case call d f args =>
        split at h <;> try exact h.elim
        split at h <;> try exact h.elim
        obtain ⟨r, h1, h2⟩ := h
        obtain ⟨e, h3, h4⟩ := callK_iff.1 h2
        exact ⟨e, ⟨g, hg, _, _, _, r, ‹_›, ‹_›, h1, h3⟩, h4⟩
      case mv => simp only [opv] at h ⊢; exact ⟨_, ⟨g, hg, _, _, _, rfl, h.1, rfl⟩, by rw [← put_app]; exact h.2⟩
      case mkf => simp only [opv] at h ⊢; exact ⟨_, ⟨g, hg, _, _, _, rfl, h.1, rfl⟩, by rw [← put_app]; exact h.2⟩
      all_goals
        split at h
        · exact ⟨_, ⟨g, hg, _, _, _, ‹_›, h.1, rfl⟩, by rw [← put_app]; exact h.2⟩
        · exact h.elim
  · rintro ⟨e, ⟨g, hg, he⟩, hK⟩
    simp only [hg]
    cases o <;> simp only [aopG] at he ⊢
    case alloc => obtain ⟨h1, h2, rfl⟩ := he; exact ⟨⟨h1, h2⟩, hK⟩
    case box => obtain ⟨h1, rfl⟩ := he; exact ⟨h1, hK⟩
    case st => obtain ⟨s, off, cs, h1, h2, h3, rfl⟩ := he; simp only [h1, h2]; exact ⟨h3, hK⟩
    case app =>
      obtain ⟨ys, h1, ⟨es, h2, h3, rfl⟩ | ⟨u, sz, es, h2, h3, rfl⟩⟩ := he
      · simp only [h1, h2]; exact ⟨h3, hK⟩
      · simp only [h1, h2]; exact ⟨h3, hK⟩
    case mkm => obtain ⟨h1, h2, rfl⟩ := he; exact ⟨⟨h1, h2⟩, hK⟩
    case mput => obtain ⟨s, kd, vd, k', q', kvs, h1, h2, h3, h4, h5, rfl⟩ := he; simp only [h1, h2, h3, h4]; exact ⟨h5, hK⟩
    case mclr => obtain ⟨s, k, e, kvs, h1, h2, h3, rfl⟩ := he; simp only [h1, h2]; exact ⟨h3, hK⟩
    case len => obtain ⟨n, h1, h2, rfl⟩ := he; simp only [h1]; exact ⟨h2, by rw [put_app]; exact hK⟩
    case call d f args =>
      obtain ⟨f', caps, cvs, r, h1, h2, h3, h4⟩ := he
      simp only [h1, h2]
      exact ⟨r, h3, callK_iff.2 ⟨e, h4, hK⟩⟩
    case mv => obtain ⟨v, ob, gs, h1, h2, rfl⟩ := he; simp only [opv, Option.some.injEq, Prod.mk.injEq] at h1 ⊢; obtain ⟨rfl, rfl, rfl⟩ := h1; exact ⟨h2, by rw [put_app]; exact hK⟩
    case mkf => obtain ⟨v, ob, gs, h1, h2, rfl⟩ := he; simp only [opv, Option.some.injEq, Prod.mk.injEq] at h1 ⊢; obtain ⟨rfl, rfl, rfl⟩ := h1; exact ⟨h2, by rw [put_app]; exact hK⟩
    case isnil d x => obtain ⟨v, ob, gs, h1, h2, rfl⟩ := he; simp only [opv] at h1; cases h1
    all_goals (obtain ⟨v, ob, gs, h1, h2, rfl⟩ := he; simp only [h1]; exact ⟨h2, by rw [put_app]; exact hK⟩)

/-! ### what an operation looks at -/
theorem ev0_congr {st st1 : St} {x : X} (h : ∀ k ∈ x.rds, getS st.slots k = getS st1.slots k) : ev0 st x = ev0 st1 x := by
  cases x with
  | t n => exact h n (by simp [X.rds])
  | c v => rfl
theorem ev_congr {st st1 : St} {x : X} (h : ∀ k ∈ x.rds, getS st.slots k = getS st1.slots k) : ev st x = ev st1 x := by simp [ev, ev0_congr h]
theorem gd_congr {st st1 : St} {x : X} (h : ∀ k ∈ x.rds, getS st.slots k = getS st1.slots k) : gd st x = gd st1 x := by simp [gd, ev0_congr h]
theorem evs_congr {st st1 : St} : ∀ {xs : List X}, (∀ k ∈ xs.flatMap X.rds, getS st.slots k = getS st1.slots k) → evs st xs = evs st1 xs ∧ gds st xs = gds st1 xs
  | [], _ => ⟨rfl, rfl⟩
  | x :: xs, h => by
    have h1 : ∀ k ∈ x.rds, getS st.slots k = getS st1.slots k := fun k hk => h k (by simp [hk])
    obtain ⟨h2, h3⟩ := evs_congr (xs := xs) fun k hk => h k (by simp only [List.flatMap_cons, List.mem_append]; exact .inr hk)
    exact ⟨by simp [evs, ev_congr h1, h2], by simp [gds, gd_congr h1, h3]⟩
theorem evParts_congr {st st1 : St} : ∀ {ps : List (Nat × Nat × X)}, (∀ k ∈ ps.flatMap (fun p => p.2.2.rds), getS st.slots k = getS st1.slots k) → evParts st ps = evParts st1 ps ∧ gdParts st ps = gdParts st1 ps
  | [], _ => ⟨rfl, rfl⟩
  | (a, b, x) :: ps, h => by
    have h1 : ∀ k ∈ x.rds, getS st.slots k = getS st1.slots k := fun k hk => h k (by simp [hk])
    obtain ⟨h2, h3⟩ := evParts_congr (ps := ps) fun k hk => h k (by simp only [List.flatMap_cons, List.mem_append]; exact .inr hk)
    exact ⟨by simp [evParts, ev_congr h1, h2], by simp [gdParts, gd_congr h1, h3]⟩
theorem guardOf_congr {st st1 : St} {gi : Option (Nat × Bool)} (h : ∀ k ∈ gRds gi, getS st.slots k = getS st1.slots k) : guardOf st gi = guardOf st1 gi := by
  cases gi with
  | none => rfl
  | some p => obtain ⟨s, b⟩ := p; simp only [guardOf, h s (by simp [gRds])]

theorem opv_congr {G : Nat → Option (List D)} {st st1 : St} {o : I} (h : ∀ k ∈ rdsOf o, getS st.slots k = getS st1.slots k) (hm : kindOf o = .reads → ∀ s, getM st.mem s = getM st1.mem s) : opv G st o = opv G st1 o := by
  have two : ∀ x y : X, (∀ k ∈ x.rds ++ y.rds, getS st.slots k = getS st1.slots k) → (ev st x = ev st1 x ∧ gd st x = gd st1 x) ∧ (ev st y = ev st1 y ∧ gd st y = gd st1 y) := fun x y hxy =>
    ⟨⟨ev_congr fun k hk => hxy k (by simp [hk]), gd_congr fun k hk => hxy k (by simp [hk])⟩, ⟨ev_congr fun k hk => hxy k (by simp [hk]), gd_congr fun k hk => hxy k (by simp [hk])⟩⟩
  cases o <;> simp only [rdsOf] at h <;> simp only [opv]
  case mv => rw [ev_congr h, gd_congr h]
  case and d x y => obtain ⟨⟨a, b⟩, a', b'⟩ := two _ _ h; rw [a, b, a', b']
  case or d x y => obtain ⟨⟨a, b⟩, a', b'⟩ := two _ _ h; rw [a, b, a', b']
  case bin d op x y => obtain ⟨⟨a, b⟩, a', b'⟩ := two _ _ h; rw [a, b, a', b']
  case not => rw [ev_congr h, gd_congr h]
  case build => obtain ⟨a, b⟩ := evParts_congr h; rw [a, b]
  case bsl => obtain ⟨a, b⟩ := evs_congr h; rw [a, b]
  case fa => rw [ev_congr h, gd_congr h]
  case ld =>
    have : ∀ s o n, rdMem st s o n = rdMem st1 s o n := fun s o n => by simp only [rdMem, hm rfl s]
    simp only [ev_congr h, gd_congr h, this]
  case idx d esz x y => obtain ⟨⟨a, b⟩, a', b'⟩ := two _ _ h; rw [a, b, a', b']
  case ext => rw [ev_congr h, gd_congr h]
  case mkf => obtain ⟨a, b⟩ := evs_congr h; rw [a, b]
  case max d x y => obtain ⟨⟨a, b⟩, a', b'⟩ := two _ _ h; rw [a, b, a', b']
  case min d x y => obtain ⟨⟨a, b⟩, a', b'⟩ := two _ _ h; rw [a, b, a', b']
  case beq d ne x y => obtain ⟨⟨a, b⟩, a', b'⟩ := two _ _ h; rw [a, b, a', b']
  case sidx d x y => obtain ⟨⟨a, b⟩, a', b'⟩ := two _ _ h; rw [a, b, a', b']
  case aidx d n x y => obtain ⟨⟨a, b⟩, a', b'⟩ := two _ _ h; rw [a, b, a', b']
  case sfrom d x y => obtain ⟨⟨a, b⟩, a', b'⟩ := two _ _ h; rw [a, b, a', b']
  case lfrom d e x y => obtain ⟨⟨a, b⟩, a', b'⟩ := two _ _ h; rw [a, b, a', b']
  case mget d ok k e kz z x y =>
    obtain ⟨⟨a, b⟩, a', b'⟩ := two _ _ h
    simp only [a, b, a', b', hm rfl]
  case lto d e x y z =>
    obtain ⟨⟨a, b⟩, a', b'⟩ := two x y (fun k hk => h k (by simp only [List.mem_append] at hk ⊢; rcases hk with hk | hk <;> simp [hk]))
    obtain ⟨⟨a2, b2⟩, _⟩ := two z z (fun k hk => h k (by simp only [List.mem_append] at hk ⊢; rcases hk with hk | hk <;> simp [hk]))
    rw [a, b, a', b', a2, b2]
  case sto d x y z =>
    obtain ⟨⟨a, b⟩, a', b'⟩ := two x y (fun k hk => h k (by simp only [List.mem_append] at hk ⊢; rcases hk with hk | hk <;> simp [hk]))
    obtain ⟨⟨a2, b2⟩, _⟩ := two z z (fun k hk => h k (by simp only [List.mem_append] at hk ⊢; rcases hk with hk | hk <;> simp [hk]))
    rw [a, b, a', b', a2, b2]

structure Agree (gi : Option (Nat × Bool)) (o : I) (st st1 : St) : Prop where
  slots : ∀ k ∈ gRds gi ++ rdsOf o, getS st.slots k = getS st1.slots k
  mem : kindOf o = .reads ∨ kindOf o = .writes → ∀ s, getM st.mem s = getM st1.mem s
  tk : kindOf o = .tokens → ∀ t, getT st.tk t = getT st1.tk t
theorem ER_congr {gi : Option (Nat × Bool)} {o : I} {st st1 : St} (h : Agree gi o st st1) {e : Eff} (he : ER E gi o st e) : ER E gi o st1 e := by
  obtain ⟨g, hg, he⟩ := he
  have hr : ∀ k ∈ rdsOf o, getS st.slots k = getS st1.slots k := fun k hk => h.slots k (by simp [hk])
  refine ⟨g, by rw [← guardOf_congr fun k hk => h.slots k (by simp [hk])]; exact hg, ?_⟩
  have two : ∀ x y : X, (∀ k ∈ x.rds ++ y.rds, getS st.slots k = getS st1.slots k) → (ev st x = ev st1 x ∧ gd st x = gd st1 x) ∧ (ev st y = ev st1 y ∧ gd st y = gd st1 y) := fun x y hxy =>
    ⟨⟨ev_congr fun k hk => hxy k (by simp [hk]), gd_congr fun k hk => hxy k (by simp [hk])⟩, ⟨ev_congr fun k hk => hxy k (by simp [hk]), gd_congr fun k hk => hxy k (by simp [hk])⟩⟩
  cases o
  case alloc => simp only [← h.mem (.inr rfl)] at *; exact he
  case box s x => simp only [rdsOf] at hr; simp only [← h.mem (.inr rfl), ← ev_congr hr, ← gd_congr hr] at *; exact he
  case st n a x => simp only [rdsOf] at hr; obtain ⟨⟨a1, b1⟩, a2, b2⟩ := two _ _ hr; simp only [← h.mem (.inr rfl), ← a1, ← b1, ← a2, ← b2] at *; exact he
  case mkm => simp only [← h.mem (.inr rfl)] at *; exact he
  case mclr x => simp only [rdsOf] at hr; simp only [← h.mem (.inr rfl), ← ev_congr hr, ← gd_congr hr] at *; exact he
  case mput k e kz x y z =>
    simp only [rdsOf] at hr
    obtain ⟨⟨a1, b1⟩, a2, b2⟩ := two x y (fun k hk => hr k (by simp only [List.mem_append] at hk ⊢; rcases hk with hk | hk <;> simp [hk]))
    obtain ⟨⟨a3, b3⟩, _⟩ := two z z (fun k hk => hr k (by simp only [List.mem_append] at hk ⊢; rcases hk with hk | hk <;> simp [hk]))
    simp only [← h.mem (.inr rfl), ← a1, ← b1, ← a2, ← b2, ← a3, ← b3] at *; exact he
  case app d esz eb x y => simp only [rdsOf] at hr; obtain ⟨⟨a1, b1⟩, a2, b2⟩ := two _ _ hr; simp only [← h.tk rfl, ← a1, ← b1, ← a2, ← b2] at *; exact he
  case len d str x => simp only [rdsOf] at hr; simp only [← ev_congr hr, ← gd_congr hr] at *; exact he
  case call d f args =>
    simp only [rdsOf] at hr
    have h1 : ∀ k ∈ f.rds, getS st.slots k = getS st1.slots k := fun k hk => hr k (by simp [hk])
    obtain ⟨h2, h3⟩ := evs_congr (xs := args) fun k hk => hr k (List.mem_append.2 (.inr hk))
    simp only [← ev_congr h1, ← gd_congr h1, ← h2, ← h3] at *
    obtain ⟨f', caps, cvs, r, k1, k2, k3, k4⟩ := he
    exact ⟨f', caps, cvs, r, k1, k2, k3, callE_congr (h.tk rfl) k4⟩
  all_goals
    simp only at he ⊢
    rw [← opv_congr hr (fun hk => h.mem (.inl hk))]
    exact he

theorem ER_shape {gi : Option (Nat × Bool)} {o : I} {st : St} {e : Eff} (he : ER E gi o st e) : (e.slot.map (·.1) = wrOf o) ∧ (e.mem ≠ none → kindOf o = .writes) ∧ (e.tk ≠ none → kindOf o = .tokens) := by
  obtain ⟨g, hg, he⟩ := he
  cases o <;> simp only [wrOf, kindOf, dstOf] at he ⊢
  case alloc => obtain ⟨_, _, rfl⟩ := he; simp
  case box => obtain ⟨_, rfl⟩ := he; simp
  case st => obtain ⟨_, _, _, _, _, _, rfl⟩ := he; simp
  case mkm => obtain ⟨_, _, rfl⟩ := he; simp
  case mput => obtain ⟨_, _, _, _, _, _, _, _, _, _, _, rfl⟩ := he; simp
  case mclr => obtain ⟨_, _, _, _, _, _, _, rfl⟩ := he; simp
  case app => obtain ⟨_, _, ⟨_, _, _, rfl⟩ | ⟨_, _, _, _, _, rfl⟩⟩ := he <;> simp
  case len => obtain ⟨_, _, _, rfl⟩ := he; simp
  case call d f args =>
    obtain ⟨_, _, _, r, _, _, _, he⟩ := he
    cases r with
    | own a sz es => obtain ⟨d', rfl, _, rfl⟩ := he; simp
    | one x => cases he; cases d <;> simp
    | agg x => cases he; cases d <;> simp
    | tup x => cases he; cases d <;> simp
  all_goals (obtain ⟨_, _, _, _, _, rfl⟩ := he; simp)

/-- states that answer alike -/
structure StEq (s s1 : St) : Prop where
  slots : ∀ k, getS s.slots k = getS s1.slots k
  mem : ∀ k, getM s.mem k = getM s1.mem k
  tk : ∀ k, getT s.tk k = getT s1.tk k
theorem getS_app (o : Option (Nat × AV)) (l : List (Nat × AV)) (k : Nat) : getS (o.toList ++ l) k = match o with | some (d, v) => if d = k then v else getS l k | none => getS l k := by
  cases o with
  | none => rfl
  | some p => rfl
theorem getM_app (o : Option (Nat × List AV)) (l : Mem) (k : Nat) : getM (o.toList ++ l) k = match o with | some (d, v) => if d = k then some v else getM l k | none => getM l k := by
  cases o with
  | none => rfl
  | some p => rfl
theorem getT_tkApp_congr {tk tk1 : List (Nat × Bool)} (h : ∀ k, getT tk k = getT tk1 k) (o : Option (Nat × Option Nat)) (k : Nat) : getT (tkApp tk o) k = getT (tkApp tk1 o) k := by
  cases o with
  | none => exact h k
  | some p =>
    obtain ⟨d, u⟩ := p
    cases u <;> simp only [tkApp, getT_cons, getT_kill, h]
theorem StEq.app {s s1 : St} (h : StEq s s1) (e : Eff) : StEq (e.app s) (e.app s1) := by
  refine ⟨fun k => ?_, fun k => ?_, fun k => getT_tkApp_congr h.tk e.tk k⟩
  · simp only [Eff.app, getS_app, h.slots]
  · simp only [Eff.app, getM_app, h.mem]
theorem StEq.agree {s s1 : St} (h : StEq s s1) (gi : Option (Nat × Bool)) (o : I) : Agree gi o s s1 := ⟨fun k _ => h.slots k, fun _ => h.mem, fun _ => h.tk⟩
/-- what is asked does not tell such states apart -/
def Blind (K : St → Prop) : Prop := ∀ s s1, StEq s s1 → K s → K s1
theorem aopN_blind {gi : Option (Nat × Bool)} {o : I} {K : St → Prop} (hK : Blind K) : Blind (fun s => aopN E gi o s K) := by
  intro s s1 he h
  obtain ⟨e, h1, h2⟩ := aopN_iff.1 h
  exact aopN_iff.2 ⟨e, ER_congr (he.agree gi o) h1, hK _ _ (he.app e) h2⟩
theorem aopsN_blind {K : St → Prop} (hK : Blind K) : ∀ l, Blind (aopsN E l K)
  | [] => hK
  | (g, o) :: os => aopN_blind (aopsN_blind hK os)

theorem Agree.of_app {a b : Option (Nat × Bool) × I} {e : Eff} {s0 : St} (hs : ER E a.1 a.2 s0 e) (hw : slotApart (wrOf a.2) (gRds b.1 ++ rdsOf b.2) = true) (hk : kindsApart (kindOf a.2) (kindOf b.2) = true) (st : St) : Agree b.1 b.2 (e.app st) st := by
  obtain ⟨h1, h2, h3⟩ := ER_shape hs
  refine ⟨fun k hk' => ?_, fun hr s => ?_, fun ht t => ?_⟩
  · simp only [Eff.app, getS_app]
    cases hsl : e.slot with
    | none => rfl
    | some p =>
      obtain ⟨d, v⟩ := p
      rw [hsl] at h1
      simp only [Option.map_some] at h1
      rw [← h1] at hw
      simp only [slotApart, Bool.not_eq_true', List.contains_eq_mem, decide_eq_false_iff_not] at hw
      simp only
      rw [if_neg]
      rintro rfl
      exact hw hk'
  · simp only [Eff.app, getM_app]
    cases hm : e.mem with
    | none => rfl
    | some p =>
      have := h2 (by simp [hm])
      rw [this] at hk
      rcases hr with hr | hr <;> rw [hr] at hk <;> simp [kindsApart] at hk
  · simp only [Eff.app]
    cases hm : e.tk with
    | none => rfl
    | some p =>
      have := h3 (by simp [hm])
      rw [this, ht] at hk
      simp [kindsApart] at hk
theorem kindsApart_symm (a b : Kind) : kindsApart a b = kindsApart b a := by cases a <;> cases b <;> rfl

/-- what is read is not what is new -/
theorem opv_new {G : Nat → Option (List D)} {st st1 : St} {a b : I} (hr : readsNew a b = true) (h : ∀ k ∈ rdsOf a, getS st.slots k = getS st1.slots k) (hm : ∀ s cs, getM st.mem s = some cs → getM st1.mem s = some cs) {r : AV × Prop × Bool} (hv : opv G st a = some r) : opv G st1 a = some r := by
  have two : ∀ x y : X, (∀ k ∈ x.rds ++ y.rds, getS st.slots k = getS st1.slots k) → (ev st x = ev st1 x ∧ gd st x = gd st1 x) ∧ (ev st y = ev st1 y ∧ gd st y = gd st1 y) := fun x y hxy =>
    ⟨⟨ev_congr fun k hk => hxy k (by simp [hk]), gd_congr fun k hk => hxy k (by simp [hk])⟩, ⟨ev_congr fun k hk => hxy k (by simp [hk]), gd_congr fun k hk => hxy k (by simp [hk])⟩⟩
  cases a <;> simp only [readsNew, Bool.false_eq_true] at hr
  case ld d ag n x =>
    simp only [rdsOf] at h
    simp only [opv] at hv ⊢
    rw [← ev_congr h, ← gd_congr h]
    split at hv
    · rename_i s o he
      have : ∀ cs, rdMem st s o n = some cs → rdMem st1 s o n = some cs := by
        intro cs hc
        unfold rdMem at hc ⊢
        split at hc
        · rename_i bx hb; rw [hm s bx hb]; exact hc
        · cases hc
      split at hv
      · rename_i cs hc; rw [this cs hc]; exact hv
      · cases hv
    · exact hv
    · exact hv
    · cases hv
  case mget d ok k e kz z x y =>
    simp only [rdsOf] at h
    obtain ⟨⟨a, b⟩, a', b'⟩ := two _ _ h
    simp only [opv, ← a, ← b, ← a', ← b'] at hv ⊢
    split at hv
    · split at hv
      · rename_i hb; rw [hm _ _ hb]; exact hv
      · cases hv
    · cases hv
theorem swapN {a b : Option (Nat × Bool) × I} (hab : apart a b = true) {K : St → Prop} (hK : Blind K) {st : St} (h : aopN E a.1 a.2 st fun s => aopN E b.1 b.2 s K) : aopN E b.1 b.2 st fun s => aopN E a.1 a.2 s K := by
  simp only [apart, Bool.and_eq_true] at hab
  obtain ⟨⟨⟨hk, hw⟩, hw'⟩, hww⟩ := hab
  obtain ⟨e1, h1, h2⟩ := aopN_iff.1 h
  obtain ⟨e2, h3, h4⟩ := aopN_iff.1 h2
  by_cases hk' : kindsApart (kindOf a.2) (kindOf b.2) = true
  case neg =>
    have hrn : readsNew a.2 b.2 = true := by
      simp only [Bool.or_eq_true] at hk
      exact hk.resolve_left hk'
    have hka : kindOf a.2 = .reads := by
      obtain ⟨ga, oa⟩ := a
      cases oa <;> simp only [readsNew, Bool.false_eq_true] at hrn <;> rfl
    obtain ⟨s1, m1, t1⟩ := ER_shape h1
    have hm1 : e1.mem = none := by
      cases hm : e1.mem with
      | none => rfl
      | some p => have := m1 (by simp [hm]); rw [hka] at this; cases this
    have ht1 : e1.tk = none := by
      cases hm : e1.tk with
      | none => rfl
      | some p => have := t1 (by simp [hm]); rw [hka] at this; cases this
    have hslot : ∀ k ∈ gRds b.1 ++ rdsOf b.2, getS (e1.app st).slots k = getS st.slots k := by
      intro k hk2
      simp only [Eff.app, getS_app]
      cases hsl : e1.slot with
      | none => rfl
      | some p =>
        obtain ⟨d, v⟩ := p
        rw [hsl] at s1
        simp only [Option.map_some] at s1
        rw [← s1] at hw
        simp only [slotApart, Bool.not_eq_true', List.contains_eq_mem, decide_eq_false_iff_not] at hw
        simp only
        rw [if_neg]
        rintro rfl
        exact hw hk2
    have h3' : ER E b.1 b.2 st e2 := ER_congr ⟨hslot, fun _ s => by simp only [Eff.app, hm1, Option.toList_none, List.nil_append], fun _ t => by simp only [Eff.app, ht1, tkApp]⟩ h3
    obtain ⟨s2, m2, t2⟩ := ER_shape h3
    have ht2 : e2.tk = none := by
      cases hm : e2.tk with
      | none => rfl
      | some p =>
        have := t2 (by simp [hm])
        obtain ⟨gb, ob⟩ := b
        obtain ⟨ga, oa⟩ := a
        cases oa <;> simp only [readsNew, Bool.false_eq_true] at hrn <;> cases ob <;> simp only [Bool.false_eq_true] at hrn <;> cases this
    have hnew : ∀ s cs, getM st.mem s = some cs → getM (e2.app st).mem s = some cs := by
      intro s cs hs
      simp only [Eff.app, getM_app]
      cases hm : e2.mem with
      | none => exact hs
      | some p =>
        obtain ⟨s', cs'⟩ := p
        simp only
        have : getM st.mem s' = none := by
          obtain ⟨gb, ob⟩ := b
          obtain ⟨ga, oa⟩ := a
          obtain ⟨g, hg, he⟩ := h3'
          cases oa <;> simp only [readsNew, Bool.false_eq_true] at hrn <;> cases ob <;> simp only [Bool.false_eq_true] at hrn <;> simp only at he
          all_goals first
            | (obtain ⟨_, h5, rfl⟩ := he; simp only [Option.some.injEq, Prod.mk.injEq] at hm; obtain ⟨rfl, _⟩ := hm; exact h5)
            | (obtain ⟨⟨_, _, _, h5⟩, rfl⟩ := he; simp only [Option.some.injEq, Prod.mk.injEq] at hm; obtain ⟨rfl, _⟩ := hm; exact h5)
        rw [if_neg]
        · exact hs
        · rintro rfl; rw [this] at hs; cases hs
    have hslot2 : ∀ k ∈ gRds a.1 ++ rdsOf a.2, getS st.slots k = getS (e2.app st).slots k := by
      intro k hk2
      simp only [Eff.app, getS_app]
      cases hsl : e2.slot with
      | none => rfl
      | some p =>
        obtain ⟨d, v⟩ := p
        rw [hsl] at s2
        simp only [Option.map_some] at s2
        rw [← s2] at hw'
        simp only [slotApart, Bool.not_eq_true', List.contains_eq_mem, decide_eq_false_iff_not] at hw'
        simp only
        rw [if_neg]
        rintro rfl
        exact hw' hk2
    have h1' : ER E a.1 a.2 (e2.app st) e1 := by
      obtain ⟨g, hg, he⟩ := h1
      refine ⟨g, by rw [← guardOf_congr fun k hk2 => hslot2 k (by simp [hk2])]; exact hg, ?_⟩
      obtain ⟨ga, oa⟩ := a
      cases oa <;> simp only [readsNew, Bool.false_eq_true] at hrn
      all_goals
        simp only at he ⊢
        obtain ⟨v, ob, gs, he1, he2, he3⟩ := he
        exact ⟨v, ob, gs, opv_new hrn (fun k hk2 => hslot2 k (by simp [hk2])) hnew he1, he2, he3⟩
    refine aopN_iff.2 ⟨e2, h3', aopN_iff.2 ⟨e1, h1', hK _ _ ?_ h4⟩⟩
    refine ⟨fun k => ?_, fun k => ?_, fun k => ?_⟩
    · simp only [Eff.app, getS_app]
      cases hs1 : e1.slot with
      | none => rfl
      | some p1 =>
        cases hs2 : e2.slot with
        | none => rfl
        | some p2 =>
          obtain ⟨d1, v1⟩ := p1
          obtain ⟨d2, v2⟩ := p2
          rw [hs1] at s1
          rw [hs2] at s2
          simp only [Option.map_some] at s1 s2
          rw [← s1, ← s2] at hww
          simp only [slotApart, Option.toList_some, List.contains_cons, List.contains_nil, Bool.or_false, Bool.not_eq_true', beq_eq_false_iff_ne] at hww
          simp only
          by_cases hd2 : d2 = k
          · subst hd2; rw [if_pos rfl, if_neg hww, if_pos rfl]
          · rw [if_neg hd2, if_neg hd2]
    · simp only [Eff.app, hm1, Option.toList_none, List.nil_append]
    · simp only [Eff.app, ht1, ht2, tkApp]
  replace hk := hk'
  have h3' : ER E b.1 b.2 st e2 := ER_congr (Agree.of_app h1 hw hk st) h3
  have h1' : ER E a.1 a.2 (e2.app st) e1 := by
    have hag := Agree.of_app (a := b) (b := a) h3' hw' (by rw [kindsApart_symm]; exact hk) st
    exact ER_congr ⟨fun k hk => (hag.slots k hk).symm, fun hr s => (hag.mem hr s).symm, fun ht t => (hag.tk ht t).symm⟩ h1
  refine aopN_iff.2 ⟨e2, h3', aopN_iff.2 ⟨e1, h1', hK _ _ ?_ h4⟩⟩
  obtain ⟨s1, m1, t1⟩ := ER_shape h1
  obtain ⟨s2, m2, t2⟩ := ER_shape h3
  refine ⟨fun k => ?_, fun k => ?_, fun k => ?_⟩
  · simp only [Eff.app, getS_app]
    cases hs1 : e1.slot with
    | none => rfl
    | some p1 =>
      cases hs2 : e2.slot with
      | none => rfl
      | some p2 =>
        obtain ⟨d1, v1⟩ := p1
        obtain ⟨d2, v2⟩ := p2
        rw [hs1] at s1
        rw [hs2] at s2
        simp only [Option.map_some] at s1 s2
        rw [← s1, ← s2] at hww
        simp only [slotApart, Option.toList_some, List.contains_cons, List.contains_nil, Bool.or_false, Bool.not_eq_true', beq_eq_false_iff_ne] at hww
        simp only
        by_cases hd2 : d2 = k
        · subst hd2; rw [if_pos rfl, if_neg hww, if_pos rfl]
        · rw [if_neg hd2, if_neg hd2]
  · simp only [Eff.app, getM_app]
    cases hs1 : e1.mem with
    | none => rfl
    | some p1 =>
      cases hs2 : e2.mem with
      | none => rfl
      | some p2 =>
        rw [m1 (by simp [hs1]), m2 (by simp [hs2])] at hk
        simp [kindsApart] at hk
  · simp only [Eff.app]
    cases hs1 : e1.tk with
    | none => rfl
    | some p1 =>
      cases hs2 : e2.tk with
      | none => rfl
      | some p2 =>
        rw [t1 (by simp [hs1]), t2 (by simp [hs2])] at hk
        simp [kindsApart] at hk
end Go.Abs
end
section
set_option linter.unusedSimpArgs false
set_option linter.unusedVariables false
set_option linter.unusedSectionVars false
namespace Go.Abs
open Go.RowKit
variable {c : Ctx} {st : St} {tmps : Array Value} {w : World} {S : Safe} {ρ : Rho} {E : AEnv} {T : Nat → Option Ty}

theorem aopN_aop {gi : Option (Nat × Bool)} {o : I} {K : St → Prop} (h : aopN E gi o st K) : aop E gi o st K := by
  unfold aopN at h
  unfold aop
  split at h
  · exact h.elim
  · rename_i g hg
    refine aopW_of ?_
    cases o
    case isnil => exact h.elim
    case len =>
      simp only [aopG]
      simp only at h
      split at h
      · exact ⟨h.1, fun _ => h.2⟩
      · exact h.elim
    all_goals exact h

theorem frontN {α : Type} {f : α → Option (Nat × Bool) × I} {x : α} {post : List (Option (Nat × Bool) × I)} {K : St → Prop} (hK : Blind K) : ∀ {pre : List α} {st : St}, (∀ j ∈ pre, apart (f j) (f x) = true) → aopsN E (pre.map f ++ f x :: post) K st → aopsN E (f x :: (pre.map f ++ post)) K st
  | [], _, _, h => h
  | j :: pre, st, hp, h => by
    simp only [List.map_cons, List.cons_append, aopsN] at h ⊢
    have h' : aopN E (f j).1 (f j).2 st (aopsN E (f x :: (pre.map f ++ post)) K) := aopN_mono (fun s hs => frontN hK (fun k hk => hp k (by simp [hk])) hs) h
    have := swapN (hp j (by simp)) (aopsN_blind hK (pre.map f ++ post)) (by simpa only [aopsN] using h')
    simpa only [aopsN] using this

/-- the edges of k are listed -/
def EdgesIn (ops : List Oper) (listed : Nat → Bool) (k : Nat) : Prop := ∀ o, ops[k]? = some o → ∀ e ∈ o.after.toList, Region.binds .any e = true → listed e.on = true
def ClosedL (ops : List Oper) (listed : Nat → Bool) : Prop := ∀ k, listed k = true → EdgesIn ops listed k
def PredsOk (ops : List Oper) (k : Nat) (ps : Nat) : Prop := ∀ listed, ClosedL ops listed → EdgesIn ops listed k → ∀ j, ps.testBit j = true → listed j = true
theorem fold_bits {acc : List Nat} {p : Nat → Prop} : ∀ (es : List Edge) (m : Nat), (∀ j, m.testBit j = true → p j) → (∀ e ∈ es, Region.binds .any e = true → p e.on ∧ ∀ j, (acc.getD e.on 0).testBit j = true → p j) →
    ∀ j, (es.foldl (fun m e => if Region.binds .any e then m ||| (2 ^ e.on ||| acc.getD e.on 0) else m) m).testBit j = true → p j
  | [], m, hm, _, j, h => hm j h
  | e :: es, m, hm, he, j, h => by
    rw [List.foldl_cons] at h
    refine fold_bits es _ (fun i hi => ?_) (fun x hx => he x (by simp [hx])) j h
    split at hi
    · rename_i hb
      obtain ⟨h1, h2⟩ := he e (by simp) hb
      rw [Nat.testBit_or, Nat.testBit_or, Bool.or_eq_true, Bool.or_eq_true, Nat.testBit_two_pow] at hi
      rcases hi with hi | hi | hi
      · exact hm i hi
      · have : e.on = i := of_decide_eq_true hi
        exact this ▸ h1
      · exact h2 i hi
    · exact hm i hi
theorem predsOf_ok {ops : List Oper} : ∀ (os : List Oper) (acc : List Nat), os = ops.drop acc.length → (∀ k, PredsOk ops k (acc.getD k 0)) → ∀ k, PredsOk ops k ((predsOf ops acc os).getD k 0)
  | [], acc, _, h => h
  | o :: os, acc, ho, h => by
    have hlt : acc.length < ops.length := by
      rcases Nat.lt_or_ge acc.length ops.length with h1 | h1
      · exact h1
      · rw [List.drop_of_length_le h1] at ho; cases ho
    rw [List.drop_eq_getElem_cons hlt] at ho
    obtain ⟨ho1, ho2⟩ := List.cons.inj ho
    refine predsOf_ok os _ (by simpa using ho2) fun k => ?_
    generalize hx : o.after.toList.foldl (fun m e => if Region.binds .any e then m ||| (2 ^ e.on ||| acc.getD e.on 0) else m) 0 = x
    by_cases hk : k < acc.length
    · have : (acc ++ [x]).getD k 0 = acc.getD k 0 := by
        simp [List.getD, List.getElem?_append_left hk]
      rw [this]; exact h k
    · by_cases hk' : k = acc.length
      · subst hk'
        have : (acc ++ [x]).getD acc.length 0 = x := by
          simp [List.getD]
        rw [this]
        intro listed hc he j hj
        subst hx
        refine fold_bits (p := fun j => listed j = true) o.after.toList 0 (fun j hj => by simp at hj) (fun e he1 hb => ?_) j hj
        have hl := he o (by rw [List.getElem?_eq_getElem hlt, ho1]) e he1 hb
        exact ⟨hl, h e.on listed hc (hc e.on hl)⟩
      · have : (acc ++ [x]).getD k 0 = 0 := by
          have : (acc ++ [x]).length ≤ k := by simp; omega
          rw [List.getD_eq_getElem?_getD, List.getElem?_eq_none this]
          rfl
        rw [this]
        intro _ _ _ j hj
        simp at hj

theorem dokRow_get {l : List (Option (Nat × Bool) × I)} {preds : Nat} {b : Option (Nat × Bool) × I} : ∀ {n j : Nat}, dokRow l preds b n = true → j < n → preds.testBit j = true ∨ ∀ a, l[j]? = some a → apart a b = true
  | 0, j, _, h => by omega
  | n + 1, j, hd, h => by
    simp only [dokRow, Bool.and_eq_true, Bool.or_eq_true] at hd
    by_cases hj : j = n
    · subst hj
      rcases hd.1 with h1 | h1
      · exact .inl h1
      · refine .inr fun a ha => ?_
        rw [ha] at h1; exact h1
    · exact dokRow_get hd.2 (by omega)
theorem dokAll_get {l : List (Option (Nat × Bool) × I)} {preds : List Nat} : ∀ {n k : Nat}, dokAll l preds n = true → k < n → ∀ b, l[k]? = some b → dokRow l (preds.getD k 0) b k = true
  | 0, k, _, h => by omega
  | n + 1, k, hd, h => by
    simp only [dokAll, Bool.and_eq_true] at hd
    by_cases hk : k = n
    · subst hk
      intro b hb
      have := hd.1
      rw [hb] at this
      exact this
    · exact dokAll_get hd.2 (by omega)
theorem edgesOk_get : ∀ {os : List Oper} {k i : Nat} {o : Oper}, edgesOk k os = true → os[i]? = some o → ∀ e ∈ o.after.toList, Region.binds .any e = true → e.on < k + i
  | [], _, i, o, _, h => by simp at h
  | o' :: os, k, 0, o, hk, h => by
    simp at h; subst h
    simp only [edgesOk, Bool.and_eq_true, List.all_eq_true, Bool.or_eq_true, Bool.not_eq_true', decide_eq_true_eq] at hk
    intro e he hb
    rcases hk.1 e he with h1 | h1
    · rw [hb] at h1; cases h1
    · simpa using h1
  | o' :: os, k, i + 1, o, hk, h => by
    simp only [edgesOk, Bool.and_eq_true] at hk
    have := edgesOk_get (i := i) hk.2 (by simpa using h)
    intro e he hb
    have := this e he hb
    omega

theorem regd_any (hG : E.G = c.G) (hC : ∀ f args r, E.C f args r → Ev c.P c.G f args r) (hT : ∀ t ty, T t = some ty → chkTy c.P t ty = true) {ops : Array Oper} {l : List (Option (Nat × Bool) × I)} (htr : trOps T ops.toList = some l)
    (hdst : ∀ o ∈ ops.toList, ∀ d, o.dst = some d → c.D d) (hdok : dok ops.toList l = true) {F : Fence} (hF : FW F) (m : Nat) (Q : Exit → Act → World → Prop) {K : St → Prop} (hK : Blind K) (hQ : ∀ a w, Goes c K a w → Q .normal a w) :
    ∀ (fuel : Nat) (listed : Array Bool) {st : St} {tmps : Array Value} {w : World} {S : Safe} {ρ : Rho}, listed.size = ops.size → ((List.range ops.size).filter fun i => !listed.getD i false).length ≤ fuel → ClosedL ops.toList (fun i => listed.getD i false) →
      Sim c st tmps w S ρ → aopsN E (((List.range ops.size).filter fun i => !listed.getD i false).map fun i => l.getD i default) K st → wpAnyIn F m c.P .any ops Q fuel listed ⟨tmps, c.ds⟩ w := by
  obtain ⟨hlen, hget⟩ := trOps_get htr
  simp only [Array.length_toList] at hlen
  simp only [dok, Bool.and_eq_true] at hdok
  obtain ⟨hedge, hall⟩ := hdok
  have hpreds := predsOf_ok (ops := ops.toList) ops.toList [] (by simp) (fun k => by intro _ _ _ j hj; simp at hj)
  -- whatever is not listed first, is ready
  have hready : ∀ (listed : Array Bool), listed.size = ops.size → Region.ready .any ops listed = [] → ((List.range ops.size).filter fun i => !listed.getD i false) = [] := by
    intro listed hsz hr
    cases hrem : (List.range ops.size).filter fun i => !listed.getD i false with
    | nil => rfl
    | cons i r =>
      exfalso
      have hi : i ∈ (List.range ops.size).filter fun i => !listed.getD i false := by rw [hrem]; simp
      simp only [List.mem_filter, List.mem_range, Bool.not_eq_true'] at hi
      have hmin : ∀ j, j < i → listed.getD j false = true := by
        intro j hj
        cases hlj : listed.getD j false with
        | true => rfl
        | false =>
          have hjm : j ∈ (List.range ops.size).filter fun i => !listed.getD i false := List.mem_filter.2 ⟨List.mem_range.2 (by omega), by rw [hlj]; rfl⟩
          have hsorted : ((List.range ops.size).filter fun i => !listed.getD i false).Pairwise (· < ·) := List.Pairwise.filter _ List.pairwise_lt_range
          rw [hrem] at hjm hsorted
          rcases List.mem_cons.1 hjm with rfl | hjm
          · omega
          · have := (List.pairwise_cons.1 hsorted).1 j hjm; omega
      have : i ∈ Region.ready .any ops listed := by
        simp only [Region.ready, List.mem_filter, List.mem_range, Bool.and_eq_true, Bool.not_eq_true']
        refine ⟨hi.1, ?_, ?_⟩
        · have : listed.getD i true = listed.getD i false := by simp [Array.getD_eq_getD_getElem?, Array.getElem?_eq_getElem (hsz ▸ hi.1 : i < listed.size)]
          rw [this]; exact hi.2
        · simp only [Array.getElem?_eq_getElem hi.1, Option.map_some, Option.getD_some, Array.all_eq_true_iff_forall_mem, Bool.or_eq_true, Bool.not_eq_true']
          intro e he
          cases hb : Region.binds .any e with
          | false => exact .inl rfl
          | true =>
            refine .inr (hmin e.on ?_)
            have := edgesOk_get (i := i) (o := ops[i]) hedge (by simp [hi.1]) e (by simpa using he) hb
            omega
      rw [hr] at this
      cases this
  intro fuel
  induction fuel with
  | zero =>
    intro listed st tmps w S ρ hsz hfu _ h hA
    have hnil : ((List.range ops.size).filter fun i => !listed.getD i false) = [] := List.eq_nil_of_length_eq_zero (by omega)
    rw [hnil] at hA
    refine ⟨?_, hQ _ _ ⟨rfl, _, _, _, h, hA⟩⟩
    cases hr : Region.ready .any ops listed with
    | nil => rfl
    | cons i r =>
      exfalso
      have hi : i ∈ Region.ready .any ops listed := by rw [hr]; simp
      simp only [Region.ready, List.mem_filter, List.mem_range, Bool.and_eq_true, Bool.not_eq_true'] at hi
      have : i ∈ (List.range ops.size).filter fun i => !listed.getD i false := by
        simp only [List.mem_filter, List.mem_range, Bool.not_eq_true']
        refine ⟨hi.1, ?_⟩
        have : listed.getD i true = listed.getD i false := by simp [Array.getD_eq_getD_getElem?, Array.getElem?_eq_getElem (hsz ▸ hi.1 : i < listed.size)]
        rw [← this]; exact hi.2.1
      rw [hnil] at this
      cases this
  | succ fuel ih =>
    intro listed st tmps w S ρ hsz hfu hcl h hA
    refine ⟨fun hr => ?_, fun i hi => ?_⟩
    · rw [hready listed hsz hr] at hA
      exact hQ _ _ ⟨rfl, _, _, _, h, hA⟩
    · simp only [Region.ready, List.mem_filter, List.mem_range, Bool.and_eq_true, Bool.not_eq_true'] at hi
      obtain ⟨hin, hi1, hi2⟩ := hi
      have hgi : listed.getD i true = listed.getD i false := by simp [Array.getD_eq_getD_getElem?, Array.getElem?_eq_getElem (hsz ▸ hin : i < listed.size)]
      rw [hgi] at hi1
      have hed : EdgesIn ops.toList (fun i => listed.getD i false) i := by
        intro o ho e he hb
        have hoi : ops[i]? = some o := by simpa using ho
        simp only [hoi, Option.map_some, Option.getD_some, Array.all_eq_true_iff_forall_mem, Bool.or_eq_true, Bool.not_eq_true'] at hi2
        rcases hi2 e (by simpa using he) with h1 | h1
        · rw [hb] at h1; cases h1
        · exact h1
      have hmem : i ∈ (List.range ops.size).filter fun i => !listed.getD i false := List.mem_filter.2 ⟨List.mem_range.2 hin, by rw [hi1]; rfl⟩
      obtain ⟨pre, post, hsplit⟩ := List.append_of_mem hmem
      have hsorted : ((List.range ops.size).filter fun i => !listed.getD i false).Pairwise (· < ·) := List.Pairwise.filter _ List.pairwise_lt_range
      have hpre : ∀ j ∈ pre, j < i ∧ listed.getD j false = false := by
        intro j hj
        rw [hsplit] at hsorted
        refine ⟨(List.pairwise_append.1 hsorted).2.2 j hj i (by simp), ?_⟩
        have : j ∈ (List.range ops.size).filter fun i => !listed.getD i false := by rw [hsplit]; simp [hj]
        simp only [List.mem_filter, Bool.not_eq_true'] at this
        exact this.2
      have hil : i < l.length := by omega
      have hli : l[i]? = some l[i] := List.getElem?_eq_getElem hil
      have hap : ∀ j ∈ pre, apart (l.getD j default) (l.getD i default) = true := by
        intro j hj
        obtain ⟨hji, hjl⟩ := hpre j hj
        have hrow := dokAll_get hall (by simpa using hin) l[i] hli
        have hjlen : j < l.length := by omega
        rcases dokRow_get hrow hji with h1 | h1
        · have := hpreds i _ hcl hed j h1
          rw [hjl] at this; cases this
        · have := h1 l[j] (List.getElem?_eq_getElem hjlen)
          simpa [List.getD, hli, List.getElem?_eq_getElem hjlen] using this
      rw [hsplit, List.map_append, List.map_cons] at hA
      have hfront := frontN (x := i) hK hap hA
      simp only [aopsN] at hfront
      obtain ⟨gi, ii, hgii, htg, hti⟩ := hget i ops[i] (by simp [hin])
      have hld : l.getD i default = (gi, ii) := by simp [List.getD, hgii]
      rw [hld] at hfront
      refine wpOp_sound hG hC hT h (Array.getElem?_eq_getElem hin) htg hti (hdst _ (by simp)) (aopN_aop hfront) ?_ Q hF m
      rintro ⟨tmps', ds'⟩ w' ⟨hds, st', S', ρ', h', hA'⟩
      simp only at hds
      subst hds
      have hl' : ∀ j, (listed.setIfInBounds i true).getD j false = (decide (j = i) || listed.getD j false) := by
        intro j
        simp only [Array.getD_eq_getD_getElem?, Array.getElem?_setIfInBounds]
        by_cases hj : i = j
        · subst hj; simp [hsz, hin]
        · have : ¬ j = i := fun e => hj e.symm
          simp [hj, this]
      have hrem' : ((List.range ops.size).filter fun j => !(listed.setIfInBounds i true).getD j false) = pre ++ post := by
        have e1 : ((List.range ops.size).filter fun j => !(listed.setIfInBounds i true).getD j false) = (((List.range ops.size).filter fun j => !listed.getD j false).filter fun j => !decide (j = i)) := by
          rw [List.filter_filter]
          congr 1
          funext j
          rw [hl' j]
          cases decide (j = i) <;> simp
        rw [e1, hsplit, List.filter_append, List.filter_cons]
        have hpf : pre.filter (fun j => !decide (j = i)) = pre := List.filter_eq_self.2 fun j hj => by
          have := (hpre j hj).1
          simp; omega
        have hqf : post.filter (fun j => !decide (j = i)) = post := List.filter_eq_self.2 fun j hj => by
          rw [hsplit] at hsorted
          have := (List.pairwise_cons.1 (List.pairwise_append.1 hsorted).2.1).1 j hj
          simp; omega
        rw [hpf, hqf]
        simp
      refine ih (listed.setIfInBounds i true) (by simp [hsz]) ?_ ?_ h' ?_
      · rw [hrem']
        rw [hsplit] at hfu
        simp at hfu ⊢
        omega
      · intro k hk o ho e he hb
        simp only at hk ⊢
        rw [hl'] at hk ⊢
        by_cases hki : k = i
        · subst hki
          have := hed o ho e he hb
          simp only at this
          rw [this]; simp
        · simp only [hki, decide_false, Bool.false_or] at hk
          have := hcl k hk o ho e he hb
          simp only at this
          rw [this]; simp
      · rw [hrem', List.map_append]
        exact hA'
end Go.Abs
end
section
set_option linter.unusedSimpArgs false
set_option linter.unusedVariables false
set_option linter.unusedSectionVars false
namespace Go.Abs
open Go.RowKit
variable {c : Ctx} {st : St} {tmps : Array Value} {w : World} {S : Safe} {ρ : Rho} {E : AEnv} {T : Nat → Option Ty}

theorem Sim.eq {s s0 : St} (he : StEq s0 s) (h : Sim c s tmps w S ρ) : Sim c s0 tmps w S ρ := by
  refine { h with slots := fun k => by rw [he.slots]; exact h.slots k, mem := fun s cs hs => h.mem s cs (by rw [← he.mem]; exact hs), boxNew := fun s hs => h.boxNew s (by rw [← he.mem]; exact hs), mps := { at' := fun s k e kvs hs => h.mps.at' s k e kvs (by rw [← he.mem]; exact hs), inj := h.mps.inj, new := fun s hs => h.mps.new s (by rw [← he.mem]; exact hs), lt := h.mps.lt, apart := h.mps.apart }, tok := fun t ht => ?_, tokNew := fun t ht => h.tokNew t (by rw [← he.tk]; exact ht) }
  obtain ⟨x, g1, g2⟩ := h.tok t (by rw [← he.tk]; exact ht)
  refine ⟨x, g1, ?_⟩
  rcases g2 with g2 | ⟨b, k0, k1, k2, k3, k4, k5, k6, k7⟩
  · exact .inl g2
  · exact .inr ⟨b, k0, k1, k2, k3, k4, k5, k6, fun t' b' z hne ht' htok hz => k7 t' b' z hne (by rw [← he.tk]; exact ht') htok hz⟩

abbrev FR (ro : Option Nat) : Fence := { Fence.wide with round := ro }
theorem FR.fw (ro : Option Nat) : FW (FR ro) := ⟨fun _ => trivial, rfl, rfl⟩

theorem regd_sound (hG : E.G = c.G) (hC : ∀ f args r, E.C f args r → Ev c.P c.G f args r) (hT : ∀ t ty, T t = some ty → chkTy c.P t ty = true) (hm : c.P.follows .mixedOrders = true) {ops : Array Oper} {l : List (Option (Nat × Bool) × I)} (htr : trOps T ops.toList = some l)
    (hdst : ∀ o ∈ ops.toList, ∀ d, o.dst = some d → c.D d) (hdok : dok ops.toList l = true) {F : Fence} (hF : FW F) (m : Nat) (Q : Exit → Act → World → Prop) {K : St → Prop} (hQ : ∀ a w, Goes c K a w → Q .normal a w) {id : Nat} (h : Sim c st tmps w S ρ) (hK : aopsN E l K st) : (Code.region id ops true).wpIn F m c.P Q ⟨tmps, c.ds⟩ w := by
  refine wpIn_region_any hm ?_
  obtain ⟨hlen, _⟩ := trOps_get htr
  simp only [Array.length_toList] at hlen
  have hfil : (List.range ops.size).filter (fun i => !(Array.replicate ops.size false).getD i false) = List.range ops.size := by
    refine List.filter_eq_self.2 fun i hi => ?_
    simp only [List.mem_range] at hi
    simp [Array.getD_eq_getD_getElem?, hi]
  have hmap : (List.range ops.size).map (fun i => l.getD i default) = l := by
    apply List.ext_getElem
    · simp [hlen]
    · intro i h1 h2
      simp [List.getD, List.getElem?_eq_getElem h2]
  have hs : Sim c st tmps w.drew S ρ := h.grow ((Below.refl _ _).drew) (fun _ _ hs => hs) (fun _ _ hs => .inl hs) (fun b o hs => h.live b o hs)
  refine regd_any hG hC hT htr hdst hdok hF m Q (K := fun s => ∃ s0, StEq s0 s ∧ K s0) ?_ ?_ ops.size (Array.replicate ops.size false) (by simp) (by rw [hfil]; simp) ?_ hs ?_
  · rintro s s1 he ⟨s0, he0, hk⟩
    exact ⟨s0, ⟨fun k => (he0.slots k).trans (he.slots k), fun k => (he0.mem k).trans (he.mem k), fun k => (he0.tk k).trans (he.tk k)⟩, hk⟩
  · rintro a w' ⟨hd, st', S', ρ', hs', s0, he, hk⟩
    exact hQ a w' ⟨hd, s0, S', ρ', hs'.eq he, hk⟩
  · intro k hk
    simp [Array.getD_eq_getD_getElem?, Array.getElem?_replicate] at hk
    split at hk <;> simp at hk
  · rw [hfil, hmap]
    exact aopsN_mono l (fun s hs => ⟨s, ⟨fun _ => rfl, fun _ => rfl, fun _ => rfl⟩, hs⟩) hK

def AX.out : AX → Exit
  | .normal => .normal
  | .exit i => .exit i
  | .ret => .ret

/-- a loop from within -/
def Inside (F : Fence) (m : Nat) (P : Program) (cd : Code) (R : Exit → Act → World → Prop) (a : Act) (w : World) : Prop :=
  ∀ (b : Frame) (k : List Item) (cs : List Frame), b.roundOf = F.round → F.fn b.fn → F.room (cs.length + 1 + m) →
    ∃ e a' w', R e a' w' ∧ ArrivesIn (Machine.fenced P F) P (lone (b.atR a (.code cd :: .inLoop cd :: k)) cs w) b k cs e a' w'
theorem inside_round {F : Fence} {m : Nat} {P : Program} {cd : Code} {R : Exit → Act → World → Prop} {a : Act} {w : World} (h : cd.wpIn F m P (Exit.then (Inside F m P cd R) R) a w) : Inside F m P cd R a w := by
  intro b k cs hro hb hr
  obtain ⟨e, a₁, w₁, hq, harr⟩ := h b (.inLoop cd :: k) cs hro hb hr
  cases e with
  | normal =>
    obtain ⟨e₂, a₂, w₂, hq₂, harr₂⟩ := hq b k cs hro hb hr
    exact ⟨e₂, a₂, w₂, hq₂, .of_steps (StepsIn.trans harr (.one (fenced_calm hb hr rfl) stepR_inLoop)) harr₂⟩
  | exit id => exact ⟨_, a₁, w₁, hq, .pass (x := .inLoop cd) rfl (fun _ _ => .inl (by simp)) harr⟩
  | goto l => exact ⟨_, a₁, w₁, hq, .pass (x := .inLoop cd) rfl (fun _ _ => .inl (by simp)) harr⟩
  | ret => exact ⟨_, a₁, w₁, hq, .pass (x := .inLoop cd) rfl (fun _ _ => .inl (by simp)) harr⟩
  | panic ch => exact ⟨_, a₁, w₁, hq, .pass (x := .inLoop cd) rfl (fun _ _ => .inl (by simp)) harr⟩
  | outgrown => exact ⟨_, a₁, w₁, hq, .pass (x := .inLoop cd) rfl (fun _ _ => .inl (by simp)) harr⟩
theorem wp_loop_inside {F : Fence} {m : Nat} {P : Program} {cd : Code} {R : Exit → Act → World → Prop} {a : Act} {w : World} (h : Inside F m P cd R a w) : (Code.loop cd).wpIn F m P R a w := by
  intro b k cs hro hb hr
  obtain ⟨e, a', w', hq, harr⟩ := h b k cs hro hb hr
  exact ⟨e, a', w', hq, .of_steps (.one (fenced_calm hb hr rfl) stepR_loop) harr⟩

/-! ## a range over a function -/
/-- the world and what is safe in it go on; what was there is as it was -/
def Grows (w : World) (S : Safe) (w' : World) (S' : Safe) : Prop :=
  Below w.heap.size w w' ∧ (∀ b o, S b o → S' b o) ∧ (∀ b o, S' b o → S b o ∨ w.heap.size ≤ b) ∧ Live w' S'
/-- The function f with these captured data, ranged over, yields xs; or ends where it is told to. -/
def ItOk (P : Program) (G : Nat → Option (List D)) (f : FuncId) (caps : List D) (xs : List (List CV)) : Prop :=
  Enters P f ∧ ∀ (l : Nat) (w : World) (S : Safe) (cs : List Value) (J : List (List CV) → World → Safe → Prop) (Jx : World → Safe → Prop),
    Live w S → GlobOk P G w S → RepL w S caps cs →
    (∀ pre W S1 W' S2, J pre W S1 → Grows W S1 W' S2 → J pre W' S2) →
    (∀ W S1 W' S2, Jx W S1 → Grows W S1 W' S2 → Jx W' S2) →
    (∀ pre W S1, J pre W S1 → Live W S1 ∧ Keeps w S W S1 ∧ Exact P G W) →
    (∀ W S1, Jx W S1 → Live W S1 ∧ P.globals.size ≤ W.heap.size) →
    (∀ pre x rest W S1 vs, xs = pre ++ x :: rest → J pre W S1 → RepCL W S1 x vs → YieldAt Fence.wide 0 P l vs.toArray W fun e W' =>
      (e = .returned (.bool true) ∧ ∃ S2, J (pre ++ [x]) W' S2 ∧ Keeps W S1 W' S2) ∨ (e = .returned (.bool false) ∧ ∃ S2, Jx W' S2)) →
    J [] w S →
    Calls P f (#[.func (.yield l) #[] #[]] ++ cs.toArray) w fun e W' => ∃ v, e = .returned v ∧ ((∃ S2, J xs W' S2) ∨ ∃ S2, Jx W' S2)

def markOf (D : Nat) : Deferred := { target := .collected D, args := #[] }
/-- more of the machine's own objects; more marks -/
def Ext (c c' : Ctx) : Prop := ∃ (ob' : List (Nat × Obj)) (Ds : List Nat), c' = { c with ob := ob' ++ c.ob, ds := Ds.map markOf ++ c.ds } ∧ Ds.Nodup ∧ (∀ D ∈ Ds, (D, Obj.deferred (some [])) ∈ ob') ∧
  (∀ p ∈ ob', ∀ q ∈ c.ob, p.1 ≠ q.1) ∧ ∀ p ∈ ob', c.w0.heap.size ≤ p.1
theorem Ext.refl (c : Ctx) : Ext c c := ⟨[], [], by simp, by simp, by simp, by simp, by simp⟩
theorem Ext.trans {a b c : Ctx} (h : Ext a b) (h' : Ext b c) : Ext a c := by
  obtain ⟨o1, d1, rfl, h1, h2, h3, h4⟩ := h
  obtain ⟨o2, d2, rfl, k1, k2, k3, k4⟩ := h'
  simp only at k3 k4
  refine ⟨o2 ++ o1, d2 ++ d1, by simp [List.append_assoc], ?_, ?_, ?_, ?_⟩
  · refine List.nodup_append.2 ⟨k1, h1, fun x hx y hy hxy => ?_⟩
    subst hxy
    exact k3 _ (k2 x hx) _ (List.mem_append_left _ (h2 x hy)) rfl
  · intro D hD
    rcases List.mem_append.1 hD with hD | hD
    · exact List.mem_append_left _ (k2 D hD)
    · exact List.mem_append_right _ (h2 D hD)
  · intro p hp q hq
    rcases List.mem_append.1 hp with hp | hp
    · exact k3 p hp q (List.mem_append_right _ hq)
    · exact h3 p hp q hq
  · intro p hp
    rcases List.mem_append.1 hp with hp | hp
    · exact k4 p hp
    · exact h4 p hp
end Go.Abs
end
section
set_option linter.unusedSimpArgs false
set_option linter.unusedVariables false
set_option linter.unusedSectionVars false
namespace Go.Abs
open Go.RowKit
variable {c : Ctx} {st : St} {tmps : Array Value} {w : World} {S : Safe} {ρ : Rho} {E : AEnv} {T : Nat → Option Ty}

theorem cell_putObj {w : World} {l b o : Nat} {x : Obj} (h : b ≠ l) : (w.putObj l x).cell? ⟨b, o, none⟩ = w.cell? ⟨b, o, none⟩ :=
  World.cell?_of_block (w := w) (World.putObj_heap_other h)
theorem cell_nocells {w : World} {l o : Nat} {x : Obj} (h : w.heap[l]? = some x) (hx : noData x = true) : w.cell? ⟨l, o, none⟩ = none := by
  unfold World.cell?
  rw [h]
  cases x <;> first | rfl | cases hx
/-- other objects of the machine's own are listed -/
theorem Sim.reob (h : Sim c st tmps w S ρ) {ob' : List (Nat × Obj)} {ds' : List Deferred} (ho : ∀ p ∈ ob', w.heap[p.1]? = some p.2 ∧ noData p.2 = true) : Sim { c with ob := ob', ds := ds' } st tmps w S ρ :=
  { size := h.size, slots := h.slots, mem := h.mem, inj := h.inj, boxNew := h.boxNew, mps := h.mps, tok := h.tok, tokNew := h.tokNew, below := h.below, old := h.old, new := h.new, live := h.live, glob := h.glob, fx := h.fx, ex := h.ex, obs := ho, keeps := h.keeps }
/-- an object of the machine's own is turned -/
theorem Sim.putObj (h : Sim c st tmps w S ρ) {l : Nat} {o o' : Obj} {obr : List (Nat × Obj)} {ds' : List Deferred} (hob : c.ob = (l, o) :: obr) (ho' : noData o' = true) (hl : c.w0.heap.size ≤ l) (hne : ∀ p ∈ obr, p.1 ≠ l) :
    Sim { c with ob := (l, o') :: obr, ds := ds' } st tmps (w.putObj l o') S ρ := by
  have hobs := h.obs (l, o) (by rw [hob]; simp)
  have hnl : ∀ b k v, w.cell? ⟨b, k, none⟩ = some v → b ≠ l := fun b k v hv e => by
    subst e; rw [cell_nocells hobs.1 hobs.2] at hv; cases hv
  have hk : Keeps w S (w.putObj l o') S := fun b k hs => by
    obtain ⟨v, hv⟩ := h.live b k hs
    exact ⟨hs, cell_putObj (hnl b k v hv)⟩
  have hblk : ∀ b vs e fr, w.heap[b]? = some (Obj.cells vs e fr) → (w.putObj l o').heap[b]? = some (Obj.cells vs e fr) := fun b vs e fr hb => by
    have : b ≠ l := fun he => by subst he; rw [hobs.1] at hb; have := Option.some.inj hb; rw [this] at hobs; cases hobs.2
    rw [World.putObj_heap_other this]; exact hb
  refine { size := h.size, slots := fun k => (h.slots k).keep hk ρ.le_refl, mem := ?_, inj := h.inj, boxNew := h.boxNew, mps := h.mps.to ⟨(grownBy_putObj' w l o').size, fun b es clock hb => World.putObj_heap_other (fun he => by subst he; rw [hobs.1] at hb; have := Option.some.inj hb; rw [this] at hobs; cases hobs.2)⟩, tok := ?_, tokNew := h.tokNew,
           below := h.below.grown (grownBy_putObj' w l o') (fun k e => by cases e; exact .inl hl), old := h.old, new := h.new, live := fun b k hs => ?_, glob := fun g cs hg => RepCs.keep hk g 0 cs (h.glob g cs hg), fx := h.fx, ex := h.ex, obs := ?_, keeps := fun p hp => (h.keeps p hp).trans hk }
  · intro s cs hs hnm
    obtain ⟨b, vs, e, h1, h2, h3, h4, h6⟩ := h.mem s cs hs hnm
    exact ⟨b, vs, e, h1, h2, hblk _ _ _ _ h3, RepAs.keep hk ρ.le_refl cs _ h4, h6⟩
  · intro t ht
    obtain ⟨x, h1, h2⟩ := h.tok t ht
    refine ⟨x, h1, ?_⟩
    rcases h2 with h2 | ⟨b, g0, g1, ⟨cur, e, g2, g3⟩, g4, g5, g7, g8, g9⟩
    · exact .inl h2
    · exact .inr ⟨b, g0, g1, ⟨cur, e, hblk _ _ _ _ g2, g3⟩, g4, g5, g7, g8, g9⟩
  · obtain ⟨v, hv⟩ := h.live b k hs
    exact ⟨v, ((hk b k hs).2).trans hv⟩
  · intro p hp
    simp only [List.mem_cons] at hp
    rcases hp with rfl | hp
    · exact ⟨World.putObj_heap_same (Array.getElem?_eq_some_iff.1 hobs.1).1, ho'⟩
    · have := h.obs p (by rw [hob]; simp [hp])
      exact ⟨by rw [World.putObj_heap_other (hne p hp)]; exact this.1, this.2⟩
theorem getS_dropS (wl : List Nat) (k : Nat) : ∀ l : List (Nat × AV), getS (dropS wl l) k = if inN k wl = true then .undef else getS l k
  | [] => by simp [dropS, getS]
  | (j, v) :: r => by
    have ih := getS_dropS wl k r
    simp only [dropS]
    by_cases hj : inN j wl = true
    · rw [if_pos hj, ih]
      simp only [getS]
      by_cases hjk : j = k
      · subst hjk; rw [if_pos hj, if_pos hj]
      · rw [if_neg hjk]
    · rw [if_neg hj]
      simp only [getS]
      by_cases hjk : j = k
      · subst hjk; rw [if_pos rfl, if_neg hj, if_pos rfl]
      · rw [if_neg hjk, if_neg hjk]; exact ih
/-- behind a round: the frame's own slots again -/
theorem Sim.restore {c2 : Ctx} {s2 : St} {tmps2 : Array Value} {w2 : World} {S2 : Safe} {ρ2 : Rho} (h : Sim c st tmps w S ρ) {wl : List Nat} (h2 : Sim { c with kp := fun k => !inN k wl, t0 := tmps, ds := [], kx := some (w, S), ob := c2.ob } s2 tmps2 w2 S2 ρ2) :
    Sim { c with ob := c2.ob, ds := c2.ds } (s2.dropW wl) tmps w2 S2 ρ2 :=
  { size := h.size,
    slots := fun k => by
      simp only [St.dropW, getS_dropS]
      by_cases hk : inN k wl = true
      · rw [if_pos hk]; trivial
      · rw [if_neg hk]
        have := h2.fx k (by simp only [Bool.not_eq_true] at hk; simp [hk])
        have h3 := h2.slots k
        rw [this] at h3; exact h3
    mem := h2.mem, inj := h2.inj, boxNew := h2.boxNew, mps := h2.mps, tok := h2.tok, tokNew := h2.tokNew, below := h2.below, old := h2.old, new := h2.new, live := h2.live, glob := h2.glob,
    fx := h.fx, ex := h.ex, obs := h2.obs, keeps := fun p hp => (h.keeps p hp).trans (h2.keeps _ rfl) }
/-- ahead of a round: what it yields goes into the slots -/
theorem Sim.begin (h : Sim c st tmps w S ρ) {wl : List Nat} {ob : List (Nat × Obj)} (ho : ∀ p ∈ ob, w.heap[p.1]? = some p.2 ∧ noData p.2 = true) :
    ∀ (ps : List Nat) (xs : List CV) (vs : List Value) (slots : List (Nat × AV)) (tm : Array Value), (∀ p ∈ ps, p < c.N ∧ inN p wl = true) → RepCL w S xs vs → xs.length = ps.length →
      Sim { c with kp := fun k => !inN k wl, t0 := tmps, ds := [], kx := some (w, S), ob := ob } { st with slots := slots } tm w S ρ →
      Sim { c with kp := fun k => !inN k wl, t0 := tmps, ds := [], kx := some (w, S), ob := ob } { st with slots := setPs ps xs slots } ((ps.zip vs).foldl (fun t (p : Nat × Value) => t.setIfInBounds p.1 p.2) tm) w S ρ
  | [], xs, vs, slots, tm, _, _, _, hs => by cases xs <;> simpa [setPs] using hs
  | p :: ps, [], vs, slots, tm, _, _, hl, _ => by simp at hl
  | p :: ps, x :: xs, _, slots, tm, hp, ⟨v, r, e, h1, h2⟩, hl, hs => by
    subst e
    simp only [setPs, List.zip_cons_cons, List.foldl_cons]
    refine Sim.begin h ho ps xs r _ _ (fun q hq => hp q (by simp [hq])) h2 (by simpa using hl) ?_
    have hpp := hp p (by simp)
    exact hs.put (d := p) (a := x.toAV0) (v := v) ⟨hpp.1, by simp [hpp.2]⟩ (RepC.toAV h1) none (fun b hb => by cases hb)
theorem Sim.begin0 (h : Sim c st tmps w S ρ) (wl : List Nat) {ob : List (Nat × Obj)} (ho : ∀ p ∈ ob, w.heap[p.1]? = some p.2 ∧ noData p.2 = true) : Sim { c with kp := fun k => !inN k wl, t0 := tmps, ds := [], kx := some (w, S), ob := ob } { st with slots := st.slots } tmps w S ρ :=
  { size := h.size, slots := h.slots, mem := h.mem, inj := h.inj, boxNew := h.boxNew, mps := h.mps, tok := h.tok, tokNew := h.tokNew, below := h.below, old := h.old, new := h.new, live := h.live, glob := h.glob, fx := fun _ _ => rfl, ex := h.ex, obs := ho, keeps := fun p hp => by cases hp; exact Keeps.refl _ _ }
theorem RepCL.len : ∀ {as : List CV} {l : List Value}, RepCL w S as l → l.length = as.length
  | [], _, h => by simp only [RepCL] at h; subst h; rfl
  | _ :: _, _, ⟨v, r, h, _, h2⟩ => by subst h; simp [RepCL.len h2]
theorem inN_app (k : Nat) : ∀ (a b : List Nat), inN k (a ++ b) = (inN k a || inN k b)
  | [], b => by simp [inN]
  | x :: a, b => by
    simp only [List.cons_append, inN, inN_app k a b]
    by_cases h : x = k <;> simp [h]
theorem inN_mem {k : Nat} : ∀ {a : List Nat}, k ∈ a → inN k a = true
  | x :: a, h => by
    rcases List.mem_cons.1 h with rfl | h
    · simp [inN]
    · simp only [inN, inN_mem h]; split <;> rfl
end Go.Abs
end
section
set_option linter.unusedSimpArgs false
set_option linter.unusedVariables false
set_option linter.unusedSectionVars false
namespace Go.Abs
open Go.RowKit
variable {c : Ctx} {st : St} {tmps : Array Value} {w : World} {S : Safe} {ρ : Rho} {E : AEnv} {T : Nat → Option Ty}

/-- what a text's soundness says, at a frame of the function's own (none) or of a round (some l) -/
def Sound (E : AEnv) (P : Program) (G : Nat → Option (List D)) (N : Nat) (cd : Code) (ac : AC) (ro : Option Nat) : Prop :=
  ∀ (m : Nat) {c : Ctx}, c.P = P → c.G = G → c.N = N → (∀ d ∈ ac.wrs, c.kp d = false) → ∀ {Q : AX → St → Prop} {R : Exit → Act → World → Prop},
    (∀ c', Ext c c' → (ro.isSome = true → c' = c) → ∀ x st tmps w S ρ, Sim c' st tmps w S ρ → Q x st → R x.out ⟨tmps, c'.ds⟩ w) →
    ∀ {st : St} {tmps : Array Value} {w : World} {S : Safe} {ρ : Rho}, Sim c st tmps w S ρ → awp E ac Q st → cd.wpIn (FR ro) m P R ⟨tmps, c.ds⟩ w

def AX.jump : AX → Option Code
  | .normal => none
  | .exit i => some (.exit i)
  | .ret => some .ret

theorem rng_sound {P : Program} {G : Nat → Option (List D)} {N : Nat} (hIt : ∀ f caps xs, E.It f caps xs → ItOk P G f caps xs) {g : Operand} {ps : Array Tmp} {assign body : Code} {g' : X} {a b : AC} (hgt : trX g = some g')
    (ha : ∀ l, Sound E P G N assign a (some l)) (hb : ∀ l, Sound E P G N body b (some l)) (hps : ∀ p ∈ ps.toList, p < N) (m : Nat) {c : Ctx} (hcP : c.P = P) (hcG : c.G = G) (hcN : c.N = N) {Q : AX → St → Prop} {R : Exit → Act → World → Prop}
    (hR : ∀ c', Ext c c' → ∀ x st tmps w S ρ, Sim c' st tmps w S ρ → Q x st → R x.out ⟨tmps, c'.ds⟩ w)
    {st : St} {tmps : Array Value} {w : World} {S : Safe} {ρ : Rho} (h : Sim c st tmps w S ρ) {f : FuncId} {caps : List D} (hv : ev st g' = .d (.clo f caps)) (hgd : gd st g' = true) {xs : List (List CV)} (hxs : E.It f caps xs)
    (hL : rngL (fun Q' => awp E a (seqK (awp E b Q') noK)) ps.toList (ps.toList ++ (a.wrs ++ b.wrs)) xs Q st) : (Code.rangeFunc g ps assign body).wpIn (FR none) m P R ⟨tmps, c.ds⟩ w := by
  obtain ⟨Inv, Sx, hS0, hI0, hround, hQ⟩ := hL
  generalize hwl : ps.toList ++ (a.wrs ++ b.wrs) = wl at hround
  obtain ⟨⟨fnf, hfn, hname, hbody⟩, hcalls⟩ := hIt _ _ _ hxs
  have e1 := h.ev (ds := c.ds) hgt hgd
  rw [hv] at e1
  obtain ⟨cs, hval, hcaps⟩ := e1
  refine wpIn_rangeFunc ?_
  intro fn hfn'
  obtain ⟨rec, hrec⟩ : ∃ rec : LoopState → Option Code → Loop, rec = fun st pe => { state := st, pending := pe, fn, tmps := tmps, params := ps, assign, body, defers := w.heap.size } := ⟨_, rfl⟩
  obtain ⟨W1, hW1⟩ : ∃ W1, (w.alloc (.deferred (some []))).alloc (.loop (rec .ready none)) = W1 := ⟨_, rfl⟩
  have hL1 : W1.heap[w.heap.size + 1]? = some (.loop (rec .ready none)) := by
    rw [← hW1]; have := World.alloc_heap_new (w.alloc (.deferred (some []))) (.loop (rec .ready none)); rwa [World.size_alloc] at this
  have hK1 : W1.heap[w.heap.size]? = some (.deferred (some [])) := by
    rw [← hW1]; exact (Below.heap_alloc _ _ _ (by simp)).trans (World.alloc_heap_new w _)
  have hbel : Below w.heap.size w W1 := by rw [← hW1]; exact ((Below.refl _ w).alloc (Nat.le_refl _) _).alloc (by simp) _
  have hlive1 : Live W1 S := fun b' o hs => by
    obtain ⟨v, hv'⟩ := h.live b' o hs
    exact ⟨v, (hbel.cell (p := ⟨b', o, none⟩) (cell_lt hv')).trans hv'⟩
  have hs1 : Sim c st tmps W1 S ρ := h.grow hbel (fun _ _ hs => hs) (fun _ _ hs => .inl hs) hlive1
  have hobold : ∀ p ∈ c.ob, p.1 < w.heap.size := fun p hp => (Array.getElem?_eq_some_iff.1 (h.obs p hp).1).1
  let mark : Deferred := markOf w.heap.size
  let obr : List (Nat × Obj) := (w.heap.size, .deferred (some [])) :: c.ob
  have hobr : ∀ p ∈ obr, p.1 ≠ w.heap.size + 1 := by
    intro p hp
    simp only [obr, List.mem_cons] at hp
    rcases hp with rfl | hp
    · simp
    · have := hobold p hp; omega
  have hl0 : c.w0.heap.size ≤ w.heap.size + 1 := Nat.le_trans h.below.size (by omega)
  have hext : ∀ o : Obj, Ext c { c with ob := (w.heap.size + 1, o) :: obr, ds := mark :: c.ds } := fun o => ⟨[(w.heap.size + 1, o), (w.heap.size, .deferred (some []))], [w.heap.size], by simp [obr, mark], by simp, by simp, fun p hp q hq => by
    have := hobold q hq
    simp at hp
    rcases hp with rfl | rfl <;> simp <;> omega, fun p hp => by
    have := h.below.size
    simp at hp
    rcases hp with rfl | rfl <;> simp <;> omega⟩
  have hev : (callFunc f (#[.func (.yield (w.heap.size + 1)) #[] #[]] ++ cs)).run P W1 = .ok (.enter f (#[.func (.yield (w.heap.size + 1)) #[] #[]] ++ cs)) W1 := by
    have hname' : ¬ fnf.name = "runtime.NumGoroutine" := by simpa using hname
    have hbody' : ¬ fnf.body = none := by intro e; simp [e] at hbody
    simp [callFunc, hfn, hname', hbody']
  refine ⟨w.heap.size + 1, [mark], W1, { target := .fn (.func f) cs, args := #[.func (.yield (w.heap.size + 1)) #[] #[]] }, W1, f, #[.func (.yield (w.heap.size + 1)) #[] #[]] ++ cs, W1, ?_, ?_, fun _ _ => trivial, ?_, (by intro hd; cases hd), ?_⟩
  · rw [← hW1, hrec]; exact run_enterLoop_outer _ _ _ _ _
  · simp only [resolve, hval]
    simp [go_sem]
  · simp only [invoke]; exact hev
  -- the iterator's contract, at Sim
  refine callsIn_fw (FR.fw none) (Calls.mono (hcalls (w.heap.size + 1) W1 S cs.toList
    (fun pre W S1 => (∃ st1 ρ1, Sim { c with ob := (w.heap.size + 1, .loop (rec .ready none)) :: obr, ds := mark :: c.ds } st1 tmps W S1 ρ1 ∧ Ent st1 (Sx pre)) ∧ Keeps W1 S W S1 ∧ Inv pre)
    (fun W S1 => ∃ x jc s1 ρ1, AX.jump x = some jc ∧ Sim { c with ob := (w.heap.size + 1, .loop (rec .done (some jc))) :: obr, ds := mark :: c.ds } s1 tmps W S1 ρ1 ∧ Q x s1)
    hlive1 (hcG ▸ hcP ▸ ⟨hs1.glob, hs1.exact⟩) (RepL.keep (fun b' o hs => ⟨hs, by obtain ⟨v, hv'⟩ := h.live b' o hs; exact hbel.cell (p := ⟨b', o, none⟩) (cell_lt hv')⟩) _ _ hcaps) ?_ ?_ ?_ ?_ ?_ ?_) ?_)
  · -- the iterator's own work
    rintro pre W S1 W' S2 ⟨⟨st1, ρ1, hsim, hent⟩, hk, hip⟩ ⟨g1, g2, g3, g4⟩
    refine ⟨⟨st1, ρ1, hsim.grow g1 g2 g3 g4, hent⟩, hk.trans fun b' o hs => ⟨g2 b' o hs, ?_⟩, hip⟩
    obtain ⟨v, hv'⟩ := hsim.live b' o hs
    exact g1.cell (p := ⟨b', o, none⟩) (cell_lt hv')
  · rintro W S1 W' S2 ⟨x, jc, s1, ρ1, hj, hsim, hq⟩ ⟨g1, g2, g3, g4⟩
    exact ⟨x, jc, s1, ρ1, hj, hsim.grow g1 g2 g3 g4, hq⟩
  · rintro pre W S1 ⟨⟨st1, ρ1, hsim, hent⟩, hk, _⟩
    exact ⟨hsim.live, hk, hcG ▸ hcP ▸ hsim.exact⟩
  · rintro W S1 ⟨x, jc, s1, ρ1, hj, hsim, hq⟩
    exact ⟨hsim.live, hcP ▸ hsim.exact.1⟩
  · -- one round
    rintro pre x rest W S1 vs hx ⟨⟨st1, ρ1, hsim0, hent⟩, hk, hip⟩ hrep
    obtain ⟨ρ2, hsim⟩ := Ent.sound hsim0 hent
    obtain ⟨hlen, hbod⟩ := hround pre x rest hx hip
    have hvl := RepCL.len hrep
    have hLW := (hsim.obs (w.heap.size + 1, .loop (rec .ready none)) (by simp)).1
    have hy := run_yield (P := P) (args := vs.toArray) hLW (by rw [hrec]; simp [hvl, hlen])
    have hpN : ∀ p ∈ ps.toList, p < c.N ∧ inN p wl = true := fun p hp => ⟨hcN ▸ hps p hp, inN_mem (by rw [← hwl]; exact List.mem_append_left _ hp)⟩
    have hbeg := Sim.begin hsim (wl := wl) (ob := (w.heap.size + 1, .loop (rec .ready none)) :: obr) hsim.obs ps.toList x vs (Sx pre).slots tmps hpN hrep hlen (Sim.begin0 hsim wl hsim.obs)
    have hkeep : ∀ {W' : World} {S2 : Safe}, Keeps W S1 W' S2 → Keeps W1 S W' S2 := fun hk2 => hk.trans hk2
    rw [hrec] at hy
    refine ⟨fn, _, assign, body, hy, roundIn_of_wpIn (F := FR none) (n := 0) trivial ?_⟩
    have htm : ((ps.zip vs.toArray).foldl (fun tmps (t, a) => tmps.setIfInBounds t a) tmps) = (ps.toList.zip vs).foldl (fun t (p : Nat × Value) => t.setIfInBounds p.1 p.2) tmps := by
      rw [← Array.foldl_toList, Array.toList_zip]
    rw [htm]
    have hfin : ∀ {jump : Option Code} {s2 : St} {tmps2 : Array Value} {W3 : World} {S3 : Safe} {ρ3 : Rho}, Sim { c with kp := fun k => !inN k wl, t0 := tmps, ds := [], kx := some (W, S1), ob := (w.heap.size + 1, .loop { rec .ready none with state := .busy }) :: obr } s2 tmps2 W3 S3 ρ3 →
        (Instr.endRound (w.heap.size + 1) jump).run P W3 = .ok (.bool jump.isNone) (W3.putObj (w.heap.size + 1) (.loop (rec (if jump.isNone then .ready else .done) jump))) ∧
        Sim { c with ob := (w.heap.size + 1, .loop (rec (if jump.isNone then .ready else .done) jump)) :: obr, ds := mark :: c.ds } (s2.dropW wl) tmps (W3.putObj (w.heap.size + 1) (.loop (rec (if jump.isNone then .ready else .done) jump))) S3 ρ3 ∧
        Keeps W S1 (W3.putObj (w.heap.size + 1) (.loop (rec (if jump.isNone then .ready else .done) jump))) S3 := by
      intro jump s2 tmps2 W3 S3 ρ3 hs3
      have hl3 := (hs3.obs (w.heap.size + 1, .loop { rec .ready none with state := .busy }) (by simp)).1
      have hr := run_endRound (P := P) jump hl3
      have hsp := Sim.putObj (o' := .loop (rec (if jump.isNone then .ready else .done) jump)) (ds' := []) hs3 rfl rfl hl0 hobr
      refine ⟨by rw [hrec] at hr ⊢; exact hr, ?_, hsp.keeps _ rfl⟩
      exact Sim.restore (c2 := { c with ob := (w.heap.size + 1, .loop (rec (if jump.isNone then .ready else .done) jump)) :: obr, ds := mark :: c.ds }) hsim hsp
    refine ha (w.heap.size + 1) 0 (c := { c with kp := fun k => !inN k wl, t0 := tmps, ds := [], kx := some (W, S1), ob := (w.heap.size + 1, .loop (rec .ready none)) :: obr }) hcP hcG hcN (fun d hd => by simp [inN_mem (show d ∈ wl by rw [← hwl]; simp [hd])]) ?_ hbeg hbod
    intro c' _ hc' e s2 tm2 W2 S2 ρ2 hs2 hq2
    obtain rfl := hc' rfl
    cases e with
    | exit i => exact hq2.elim
    | ret => exact hq2.elim
    | normal =>
    have hl2 := (hs2.obs (w.heap.size + 1, .loop (rec .ready none)) (by simp)).1
    have hsb := Sim.putObj (o' := .loop { rec .ready none with state := .busy }) (ds' := []) hs2 rfl rfl hl0 hobr
    refine ⟨_, run_beginRound hl2 (by rw [hrec]), ?_⟩
    refine hb (w.heap.size + 1) 0 (c := { c with kp := fun k => !inN k wl, t0 := tmps, ds := [], kx := some (W, S1), ob := (w.heap.size + 1, .loop { rec .ready none with state := .busy }) :: obr }) hcP hcG hcN (fun d hd => by simp [inN_mem (show d ∈ wl by rw [← hwl]; simp [hd])]) ?_ hsb hq2
    intro c' _ hc' e s3 tm3 W3 S3 ρ3 hs3 hq3
    obtain rfl := hc' rfl
    cases e with
    | normal =>
      obtain ⟨hr, hs4, hk4⟩ := hfin (jump := none) hs3
      exact ⟨_, _, hr, .inl ⟨rfl, S3, ⟨⟨_, _, hs4, hq3.1⟩, hkeep hk4, hq3.2⟩, hk4⟩⟩
    | exit i =>
      obtain ⟨hr, hs4, hk4⟩ := hfin (jump := some (.exit i)) hs3
      exact ⟨_, _, hr, .inr ⟨rfl, S3, .exit i, _, _, _, rfl, hs4, hq3⟩⟩
    | ret =>
      obtain ⟨hr, hs4, hk4⟩ := hfin (jump := some .ret) hs3
      exact ⟨_, _, hr, .inr ⟨rfl, S3, .ret, _, _, _, rfl, hs4, hq3⟩⟩
  · -- at the outset
    refine ⟨⟨st, ρ, hs1.reob ?_, hS0⟩, Keeps.refl _ _, hI0⟩
    intro p hp
    simp only [obr, List.mem_cons] at hp
    rcases hp with rfl | rfl | hp
    · exact ⟨hL1, rfl⟩
    · exact ⟨hK1, rfl⟩
    · exact hs1.obs p hp
  · -- behind the iterator
    rintro e W2 ⟨v, rfl, (⟨S2, ⟨st1, ρ1, hsim0, hent⟩, hk, hip⟩ | ⟨S2, x, jc, s1, ρ1, hj, hsim, hq⟩)⟩
    · obtain ⟨ρ2, hsim⟩ := Ent.sound hsim0 hent
      have hl2 := (hsim.obs (w.heap.size + 1, .loop (rec .ready none)) (by simp)).1
      have hr := run_endLoop (P := P) hl2 (by rw [hrec]; simp)
      have hsp := Sim.putObj (o' := .loop { rec .ready none with state := .exhausted }) (ds' := mark :: c.ds) hsim rfl rfl hl0 hobr
      have hp : (rec .ready none).pending = none := by rw [hrec]
      exact ⟨none, _, hr.trans (congrArg (fun p => Result.ok p _) hp), hR _ (hext _) .normal _ _ _ _ _ hsp (hQ hip)⟩
    · have hl2 := (hsim.obs (w.heap.size + 1, .loop (rec .done (some jc))) (by simp)).1
      have hr := run_endLoop (P := P) hl2 (by rw [hrec]; simp)
      have hsp := Sim.putObj (o' := .loop { rec .done (some jc) with state := .exhausted }) (ds' := mark :: c.ds) hsim rfl rfl hl0 hobr
      have hp : (rec .done (some jc)).pending = some jc := by rw [hrec]
      refine ⟨some jc, _, hr.trans (congrArg (fun p => Result.ok p _) hp), ?_⟩
      cases x with
      | normal => cases hj
      | exit i => cases hj; exact wpIn_exit (hR _ (hext _) (.exit i) _ _ _ _ _ hsp hq)
      | ret => cases hj; exact wpIn_ret (hR _ (hext _) .ret _ _ _ _ _ hsp hq)
end Go.Abs
end

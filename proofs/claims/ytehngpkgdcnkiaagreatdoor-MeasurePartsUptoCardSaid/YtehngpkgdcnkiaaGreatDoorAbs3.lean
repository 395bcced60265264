/-
  A LIBRARY OF THE PROOF: an abstract machine over the texts of the translated functions, whose values are plain data, proved sound with regard to the kit's law of calls.
-/
import Derived.Test.YtehngpkgdcnkiaaGreatDoorAbs2
set_option linter.unusedSimpArgs false
set_option linter.unusedVariables false
set_option linter.unusedSectionVars false
set_option maxRecDepth 100000
section
namespace Go.Abs
open Go.RowKit
variable {c : Ctx} {st : St} {tmps : Array Value} {w : World} {S : Safe} {ρ : Rho} {E : AEnv} {T : Nat → Option Ty}
theorem cell_putObj {w : World} {l b o : Nat} {x : Obj} (h : b ≠ l) : (w.putObj l x).cell? ⟨b, o, none⟩ = w.cell? ⟨b, o, none⟩ :=
 World.cell?_of_block (w := w) (World.putObj_heap_other h)
theorem cell_nocells {w : World} {l o : Nat} {x : Obj} (h : w.heap[l]? = some x) (hx : noData x = true) : w.cell? ⟨l, o, none⟩ = none := by
 unfold World.cell?
 rw [h]
 cases x <;> first | rfl | cases hx
theorem Sim.reob (h : Sim c st tmps w S ρ) {ob' : List (Nat × Obj)} {ds' : List Deferred} (ho : ∀ p ∈ ob', w.heap[p.1]? = some p.2 ∧ noData p.2 = true) : Sim { c with ob := ob', ds := ds' } st tmps w S ρ :=
 { size := h.size, slots := h.slots, mem := h.mem, inj := h.inj, boxNew := h.boxNew, mps := h.mps, tok := h.tok, tokNew := h.tokNew, below := h.below, old := h.old, new := h.new, live := h.live, glob := h.glob, fx := h.fx, ex := h.ex, obs := ho, keeps := h.keeps, pins := h.pins }
theorem Sim.putObj (h : Sim c st tmps w S ρ) {l : Nat} {o o' : Obj} {obr : List (Nat × Obj)} {ds' : List Deferred} (hob : c.ob = (l, o) :: obr) (ho' : noData o' = true) (hl : c.w0.heap.size ≤ l) (hne : ∀ p ∈ obr, p.1 ≠ l) :
  Sim { c with ob := (l, o') :: obr, ds := ds' } st tmps (w.putObj l o') S ρ := by
 have hobs := h.obs (l, o) (by rw [hob]; simp)
 have hnl : ∀ b k v, w.cell? ⟨b, k, none⟩ = some v → b ≠ l := fun b k v hv e => by
  subst e; rw [cell_nocells hobs.1 hobs.2] at hv; cases hv
 have hk : Keeps w S (w.putObj l o') S := fun b k hs => by
  obtain ⟨v, hv⟩ := h.live b k hs
  exact ⟨hs, cell_putObj (hnl b k v hv)⟩
 have hblk : ∀ b vs e fr, w.heap[b]? = some (Obj.cells vs e fr) → (w.putObj l o').heap[b]? = some (Obj.cells vs e fr) := fun b vs e fr hb => by
  have : b ≠ l := fun he => by subst he; rw [hobs.1] at hb; have := Option.some.inj hb; rw [this] at hobs; cases hobs.2
  rw [World.putObj_heap_other this]; exact hb
 refine { size := h.size, slots := fun k => (h.slots k).keep hk ρ.le_refl, mem := ?_, inj := h.inj, boxNew := h.boxNew, mps := h.mps.to hk ⟨(grownBy_putObj' w l o').size, fun b es clock hb => World.putObj_heap_other (fun he => by subst he; rw [hobs.1] at hb; have := Option.some.inj hb; rw [this] at hobs; cases hobs.2)⟩, tok := ?_, tokNew := h.tokNew,
          below := h.below.grown (grownBy_putObj' w l o') (fun k e => by cases e; exact .inl hl), old := h.old, new := h.new, live := fun b k hs => ?_, glob := fun g cs hg => RepCs.keep hk g 0 cs (h.glob g cs hg), fx := h.fx, ex := h.ex, obs := ?_, keeps := fun p hp => (h.keeps p hp).trans hk, pins := h.pins }
 ·intro s cs hs hnm
  obtain ⟨b, vs, e, h1, h2, h3, h4, h6⟩ := h.mem s cs hs hnm
  exact ⟨b, vs, e, h1, h2, hblk _ _ _ _ h3, RepAs.keep hk ρ.le_refl cs _ h4, h6⟩
 ·intro t ht
  obtain ⟨x, h1, h2⟩ := h.tok t ht
  refine ⟨x, h1, ?_⟩
  rcases h2 with h2 | ⟨b, g0, g1, ⟨cur, e, g2, g3⟩, g4, g5, g7, g8, g9⟩
  ·exact .inl h2
  ·exact .inr ⟨b, g0, g1, ⟨cur, e, hblk _ _ _ _ g2, g3⟩, g4, g5, g7, g8, g9⟩
 ·obtain ⟨v, hv⟩ := h.live b k hs
  exact ⟨v, ((hk b k hs).2).trans hv⟩
 ·intro p hp
  simp only [List.mem_cons] at hp
  rcases hp with rfl | hp
  ·exact ⟨World.putObj_heap_same (Array.getElem?_eq_some_iff.1 hobs.1).1, ho'⟩
  ·have := h.obs p (by rw [hob]; simp [hp])
   exact ⟨by rw [World.putObj_heap_other (hne p hp)]; exact this.1, this.2⟩
theorem getS_dropS (wl : List Nat) (k : Nat) : ∀ l : List (Nat × AV), getS (dropS wl l) k = if inN k wl = true then .undef else getS l k
 | [] => by simp [dropS, getS]
 | (j, v) :: r => by
  have ih := getS_dropS wl k r
  simp only [dropS]
  by_cases hj : inN j wl = true
  ·rw [if_pos hj, ih]
   simp only [getS]
   by_cases hjk : j = k
   ·subst hjk; rw [if_pos hj, if_pos hj]
   ·rw [if_neg hjk]
  ·rw [if_neg hj]
   simp only [getS]
   by_cases hjk : j = k
   ·subst hjk; rw [if_pos rfl, if_neg hj, if_pos rfl]
   ·rw [if_neg hjk, if_neg hjk]; exact ih
theorem Sim.restore {c2 : Ctx} {s2 : St} {tmps2 : Array Value} {w2 : World} {S2 : Safe} {ρ2 : Rho} (h : Sim c st tmps w S ρ) {wl : List Nat} (h2 : Sim { c with kp := fun k => !inN k wl, t0 := tmps, ds := [], kx := some (w, S), ob := c2.ob } s2 tmps2 w2 S2 ρ2) :
  Sim { c with ob := c2.ob, ds := c2.ds } (s2.dropW wl) tmps w2 S2 ρ2 :=
 { size := h.size,
   slots := fun k => by
    simp only [St.dropW, getS_dropS]
    by_cases hk : inN k wl = true
    ·rw [if_pos hk]; trivial
    ·rw [if_neg hk]
     have := h2.fx k (by simp only [Bool.not_eq_true] at hk; simp [hk])
     have h3 := h2.slots k
     rw [this] at h3; exact h3
   mem := h2.mem, inj := h2.inj, boxNew := h2.boxNew, mps := h2.mps, tok := h2.tok, tokNew := h2.tokNew, below := h2.below, old := h2.old, new := h2.new, live := h2.live, glob := h2.glob,
   fx := h.fx, ex := h.ex, obs := h2.obs, keeps := fun p hp => (h.keeps p hp).trans (h2.keeps _ rfl), pins := h2.pins }
theorem Sim.begin (h : Sim c st tmps w S ρ) {wl : List Nat} {ob : List (Nat × Obj)} (ho : ∀ p ∈ ob, w.heap[p.1]? = some p.2 ∧ noData p.2 = true) :
  ∀ (ps : List Nat) (xs : List CV) (vs : List Value) (slots : List (Nat × AV)) (tm : Array Value), (∀ p ∈ ps, p < c.N ∧ inN p wl = true) → RepCL w S xs vs → xs.length = ps.length →
   Sim { c with kp := fun k => !inN k wl, t0 := tmps, ds := [], kx := some (w, S), ob := ob } { st with slots := slots } tm w S ρ →
   Sim { c with kp := fun k => !inN k wl, t0 := tmps, ds := [], kx := some (w, S), ob := ob } { st with slots := setPs ps xs slots } ((ps.zip vs).foldl (fun t (p : Nat × Value) => t.setIfInBounds p.1 p.2) tm) w S ρ
 | [], xs, vs, slots, tm, _, _, _, hs => by cases xs <;> simpa [setPs] using hs
 | p :: ps, [], vs, slots, tm, _, _, hl, _ => by simp at hl
 | p :: ps, x :: xs, _, slots, tm, hp, ⟨v, r, e, h1, h2⟩, hl, hs => by
  subst e
  simp only [setPs, List.zip_cons_cons, List.foldl_cons]
  refine Sim.begin h ho ps xs r _ _ (fun q hq => hp q (by simp [hq])) h2 (by simpa using hl) ?_
  have hpp := hp p (by simp)
  exact hs.put (d := p) (a := x.toAV0) (v := v) ⟨hpp.1, by simp [hpp.2]⟩ (RepC.toAV h1) none (fun b hb => by cases hb)
theorem Sim.begin0 (h : Sim c st tmps w S ρ) (wl : List Nat) {ob : List (Nat × Obj)} (ho : ∀ p ∈ ob, w.heap[p.1]? = some p.2 ∧ noData p.2 = true) : Sim { c with kp := fun k => !inN k wl, t0 := tmps, ds := [], kx := some (w, S), ob := ob } { st with slots := st.slots } tmps w S ρ :=
 { size := h.size, slots := h.slots, mem := h.mem, inj := h.inj, boxNew := h.boxNew, mps := h.mps, tok := h.tok, tokNew := h.tokNew, below := h.below, old := h.old, new := h.new, live := h.live, glob := h.glob, fx := fun _ _ => rfl, ex := h.ex, obs := ho, keeps := fun p hp => by cases hp; exact Keeps.refl _ _, pins := h.pins }
theorem RepCL.len : ∀ {as : List CV} {l : List Value}, RepCL w S as l → l.length = as.length
 | [], _, h => by simp only [RepCL] at h; subst h; rfl
 | _ :: _, _, ⟨v, r, h, _, h2⟩ => by subst h; simp [RepCL.len h2]
theorem inN_mem {k : Nat} : ∀ {a : List Nat}, k ∈ a → inN k a = true
 | x :: a, h => by
  rcases List.mem_cons.1 h with rfl | h
  ·simp [inN]
  ·simp only [inN, inN_mem h]; split <;> rfl
end Go.Abs
end
section
namespace Go.Abs
open Go.RowKit
variable {c : Ctx} {st : St} {tmps : Array Value} {w : World} {S : Safe} {ρ : Rho} {E : AEnv} {T : Nat → Option Ty}
def Sound (E : AEnv) (P : Program) (G : Nat → Option (List D)) (N : Nat) (cd : Code) (ac : AC) (ro : Option Nat) : Prop :=
 ∀ (m : Nat) {c : Ctx}, c.P = P → c.G = G → c.N = N → (∀ d ∈ ac.wrs, c.kp d = false) → ∀ {Q : AX → St → Prop} {R : Exit → Act → World → Prop},
  (∀ c', Ext c c' → (ro.isSome = true → c' = c) → ∀ x st tmps w S ρ, Sim c' st tmps w S ρ → Q x st → R x.out ⟨tmps, c'.ds⟩ w) →
  ∀ {st : St} {tmps : Array Value} {w : World} {S : Safe} {ρ : Rho}, Sim c st tmps w S ρ → awp E ac Q st → cd.wpIn (FR ro) m P R ⟨tmps, c.ds⟩ w
def AX.jump : AX → Option Code
 | .normal => none
 | .exit i => some (.exit i)
 | .ret => some .ret
theorem rng_sound {P : Program} {G : Nat → Option (List D)} {N : Nat} (hIt : ∀ f caps xs, E.It f caps xs → ItOk P G f caps xs) {g : Operand} {ps : Array Tmp} {assign body : Code} {g' : X} {a b : AC} (hgt : trX g = some g')
  (ha : ∀ l, Sound E P G N assign a (some l)) (hb : ∀ l, Sound E P G N body b (some l)) (hps : ∀ p ∈ ps.toList, p < N) (m : Nat) {c : Ctx} (hcP : c.P = P) (hcG : c.G = G) (hcN : c.N = N) {Q : AX → St → Prop} {R : Exit → Act → World → Prop}
  (hR : ∀ c', Ext c c' → ∀ x st tmps w S ρ, Sim c' st tmps w S ρ → Q x st → R x.out ⟨tmps, c'.ds⟩ w)
  {st : St} {tmps : Array Value} {w : World} {S : Safe} {ρ : Rho} (h : Sim c st tmps w S ρ) {f : FuncId} {caps : List D} (hv : ev st g' = .d (.clo f caps)) (hgd : gd st g' = true) {xs : List (List CV)} (hxs : E.It f caps xs)
  (hL : rngL (fun Q' => awp E a (seqK (awp E b Q') noK)) ps.toList (ps.toList ++ (a.wrs ++ b.wrs)) xs Q st) : (Code.rangeFunc g ps assign body).wpIn (FR none) m P R ⟨tmps, c.ds⟩ w := by
 obtain ⟨Inv, Sx, hS0, hI0, hround, hQ⟩ := hL
 generalize hwl : ps.toList ++ (a.wrs ++ b.wrs) = wl at hround
 obtain ⟨⟨fnf, hfn, hname, hbody⟩, hcalls⟩ := hIt _ _ _ hxs
 have e1 := h.ev (ds := c.ds) hgt hgd
 rw [hv] at e1
 obtain ⟨cs, hval, hcaps⟩ := e1
 refine wpIn_rangeFunc ?_
 intro fn hfn'
 obtain ⟨rec, hrec⟩ : ∃ rec : LoopState → Option Code → Loop, rec = fun st pe => { state := st, pending := pe, fn, tmps := tmps, params := ps, assign, body, defers := w.heap.size } := ⟨_, rfl⟩
 obtain ⟨W1, hW1⟩ : ∃ W1, (w.alloc (.deferred (some []))).alloc (.loop (rec .ready none)) = W1 := ⟨_, rfl⟩
 have hL1 : W1.heap[w.heap.size + 1]? = some (.loop (rec .ready none)) := by
  rw [← hW1]; have := World.alloc_heap_new (w.alloc (.deferred (some []))) (.loop (rec .ready none)); rwa [World.size_alloc] at this
 have hK1 : W1.heap[w.heap.size]? = some (.deferred (some [])) := by
  rw [← hW1]; exact (Below.heap_alloc _ _ _ (by simp)).trans (World.alloc_heap_new w _)
 have hbel : Below w.heap.size w W1 := by rw [← hW1]; exact ((Below.refl _ w).alloc (Nat.le_refl _) _).alloc (by simp) _
 have hlive1 : Live W1 S := fun b' o hs => by
  obtain ⟨v, hv'⟩ := h.live b' o hs
  exact ⟨v, (hbel.cell (p := ⟨b', o, none⟩) (cell_lt hv')).trans hv'⟩
 have hs1 : Sim c st tmps W1 S ρ := h.grow hbel (fun _ _ hs => hs) (fun _ _ hs => .inl hs) hlive1
 have hobold : ∀ p ∈ c.ob, p.1 < w.heap.size := fun p hp => (Array.getElem?_eq_some_iff.1 (h.obs p hp).1).1
 let mark : Deferred := markOf w.heap.size
 let obr : List (Nat × Obj) := (w.heap.size, .deferred (some [])) :: c.ob
 have hobr : ∀ p ∈ obr, p.1 ≠ w.heap.size + 1 := by
  intro p hp
  simp only [obr, List.mem_cons] at hp
  rcases hp with rfl | hp
  ·simp
  ·have := hobold p hp; omega
 have hl0 : c.w0.heap.size ≤ w.heap.size + 1 := Nat.le_trans h.below.size (by omega)
 have hext : ∀ o : Obj, Ext c { c with ob := (w.heap.size + 1, o) :: obr, ds := mark :: c.ds } := fun o => ⟨[(w.heap.size + 1, o), (w.heap.size, .deferred (some []))], [w.heap.size], by simp [obr, mark], by simp, by simp, fun p hp q hq => by
  have := hobold q hq
  simp at hp
  rcases hp with rfl | rfl <;> simp <;> omega, fun p hp => by
  have := h.below.size
  simp at hp
  rcases hp with rfl | rfl <;> simp <;> omega⟩
 have hev : (callFunc f (#[.func (.yield (w.heap.size + 1)) #[] #[]] ++ cs)).run P W1 = .ok (.enter f (#[.func (.yield (w.heap.size + 1)) #[] #[]] ++ cs)) W1 := by
  have hname' : ¬ fnf.name = "runtime.NumGoroutine" := by simpa using hname
  have hbody' : ¬ fnf.body = none := by intro e; simp [e] at hbody
  simp [callFunc, hfn, hname', hbody']
 refine ⟨w.heap.size + 1, [mark], W1, { target := .fn (.func f) cs, args := #[.func (.yield (w.heap.size + 1)) #[] #[]] }, W1, f, #[.func (.yield (w.heap.size + 1)) #[] #[]] ++ cs, W1, ?_, ?_, fun _ _ => trivial, ?_, (by intro hd; cases hd), ?_⟩
 ·rw [← hW1, hrec]; exact run_enterLoop_outer _ _ _ _ _
 ·simp only [resolve, hval]
  simp [go_sem]
 ·simp only [invoke]; exact hev
 refine callsIn_fw (FR.fw none) (Calls.mono (hcalls (w.heap.size + 1) W1 S cs.toList
  (fun pre W S1 => (∃ st1 ρ1, Sim { c with ob := (w.heap.size + 1, .loop (rec .ready none)) :: obr, ds := mark :: c.ds } st1 tmps W S1 ρ1 ∧ Ent st1 (Sx pre)) ∧ Keeps W1 S W S1 ∧ Inv pre)
  (fun W S1 => ∃ x jc s1 ρ1, AX.jump x = some jc ∧ Sim { c with ob := (w.heap.size + 1, .loop (rec .done (some jc))) :: obr, ds := mark :: c.ds } s1 tmps W S1 ρ1 ∧ Q x s1)
  hlive1 (hcG ▸ hcP ▸ ⟨hs1.glob, hs1.exact⟩) (RepL.keep (fun b' o hs => ⟨hs, by obtain ⟨v, hv'⟩ := h.live b' o hs; exact hbel.cell (p := ⟨b', o, none⟩) (cell_lt hv')⟩) _ _ hcaps) ?_ ?_ ?_ ?_ ?_ ?_) ?_)
 ·
  rintro pre W S1 W' S2 ⟨⟨st1, ρ1, hsim, hent⟩, hk, hip⟩ ⟨g1, g2, g3, g4⟩
  refine ⟨⟨st1, ρ1, hsim.grow g1 g2 g3 g4, hent⟩, hk.trans fun b' o hs => ⟨g2 b' o hs, ?_⟩, hip⟩
  obtain ⟨v, hv'⟩ := hsim.live b' o hs
  exact g1.cell (p := ⟨b', o, none⟩) (cell_lt hv')
 ·rintro W S1 W' S2 ⟨x, jc, s1, ρ1, hj, hsim, hq⟩ ⟨g1, g2, g3, g4⟩
  exact ⟨x, jc, s1, ρ1, hj, hsim.grow g1 g2 g3 g4, hq⟩
 ·rintro pre W S1 ⟨⟨st1, ρ1, hsim, hent⟩, hk, _⟩
  exact ⟨hsim.live, hk, hcG ▸ hcP ▸ hsim.exact⟩
 ·rintro W S1 ⟨x, jc, s1, ρ1, hj, hsim, hq⟩
  exact ⟨hsim.live, hcP ▸ hsim.exact.1⟩
 ·
  rintro pre x rest W S1 vs hx ⟨⟨st1, ρ1, hsim0, hent⟩, hk, hip⟩ hrep
  obtain ⟨ρ2, hsim⟩ := Ent.sound hsim0 hent
  obtain ⟨hlen, hbod⟩ := hround pre x rest hx hip
  have hvl := RepCL.len hrep
  have hLW := (hsim.obs (w.heap.size + 1, .loop (rec .ready none)) (by simp)).1
  have hy := run_yield (P := P) (args := vs.toArray) hLW (by rw [hrec]; simp [hvl, hlen])
  have hpN : ∀ p ∈ ps.toList, p < c.N ∧ inN p wl = true := fun p hp => ⟨hcN ▸ hps p hp, inN_mem (by rw [← hwl]; exact List.mem_append_left _ hp)⟩
  have hbeg := Sim.begin hsim (wl := wl) (ob := (w.heap.size + 1, .loop (rec .ready none)) :: obr) hsim.obs ps.toList x vs (Sx pre).slots tmps hpN hrep hlen (Sim.begin0 hsim wl hsim.obs)
  have hkeep : ∀ {W' : World} {S2 : Safe}, Keeps W S1 W' S2 → Keeps W1 S W' S2 := fun hk2 => hk.trans hk2
  rw [hrec] at hy
  refine ⟨fn, _, assign, body, hy, roundIn_of_wpIn (F := FR none) (n := 0) trivial ?_⟩
  have htm : ((ps.zip vs.toArray).foldl (fun tmps (t, a) => tmps.setIfInBounds t a) tmps) = (ps.toList.zip vs).foldl (fun t (p : Nat × Value) => t.setIfInBounds p.1 p.2) tmps := by
   rw [← Array.foldl_toList, Array.toList_zip]
  rw [htm]
  have hfin : ∀ {jump : Option Code} {s2 : St} {tmps2 : Array Value} {W3 : World} {S3 : Safe} {ρ3 : Rho}, Sim { c with kp := fun k => !inN k wl, t0 := tmps, ds := [], kx := some (W, S1), ob := (w.heap.size + 1, .loop { rec .ready none with state := .busy }) :: obr } s2 tmps2 W3 S3 ρ3 →
    (Instr.endRound (w.heap.size + 1) jump).run P W3 = .ok (.bool jump.isNone) (W3.putObj (w.heap.size + 1) (.loop (rec (if jump.isNone then .ready else .done) jump))) ∧
    Sim { c with ob := (w.heap.size + 1, .loop (rec (if jump.isNone then .ready else .done) jump)) :: obr, ds := mark :: c.ds } (s2.dropW wl) tmps (W3.putObj (w.heap.size + 1) (.loop (rec (if jump.isNone then .ready else .done) jump))) S3 ρ3 ∧
    Keeps W S1 (W3.putObj (w.heap.size + 1) (.loop (rec (if jump.isNone then .ready else .done) jump))) S3 := by
   intro jump s2 tmps2 W3 S3 ρ3 hs3
   have hl3 := (hs3.obs (w.heap.size + 1, .loop { rec .ready none with state := .busy }) (by simp)).1
   have hr := run_endRound (P := P) jump hl3
   have hsp := Sim.putObj (o' := .loop (rec (if jump.isNone then .ready else .done) jump)) (ds' := []) hs3 rfl rfl hl0 hobr
   refine ⟨by rw [hrec] at hr ⊢; exact hr, ?_, hsp.keeps _ rfl⟩
   exact Sim.restore (c2 := { c with ob := (w.heap.size + 1, .loop (rec (if jump.isNone then .ready else .done) jump)) :: obr, ds := mark :: c.ds }) hsim hsp
  refine ha (w.heap.size + 1) 0 (c := { c with kp := fun k => !inN k wl, t0 := tmps, ds := [], kx := some (W, S1), ob := (w.heap.size + 1, .loop (rec .ready none)) :: obr }) hcP hcG hcN (fun d hd => by simp [inN_mem (show d ∈ wl by rw [← hwl]; simp [hd])]) ?_ hbeg hbod
  intro c' _ hc' e s2 tm2 W2 S2 ρ2 hs2 hq2
  obtain rfl := hc' rfl
  cases e with
  | exit i => exact hq2.elim
  | ret => exact hq2.elim
  | normal =>
  have hl2 := (hs2.obs (w.heap.size + 1, .loop (rec .ready none)) (by simp)).1
  have hsb := Sim.putObj (o' := .loop { rec .ready none with state := .busy }) (ds' := []) hs2 rfl rfl hl0 hobr
  refine ⟨_, run_beginRound hl2 (by rw [hrec]), ?_⟩
  refine hb (w.heap.size + 1) 0 (c := { c with kp := fun k => !inN k wl, t0 := tmps, ds := [], kx := some (W, S1), ob := (w.heap.size + 1, .loop { rec .ready none with state := .busy }) :: obr }) hcP hcG hcN (fun d hd => by simp [inN_mem (show d ∈ wl by rw [← hwl]; simp [hd])]) ?_ hsb hq2
  intro c' _ hc' e s3 tm3 W3 S3 ρ3 hs3 hq3
  obtain rfl := hc' rfl
  cases e with
  | normal =>
   obtain ⟨hr, hs4, hk4⟩ := hfin (jump := none) hs3
   exact ⟨_, _, hr, .inl ⟨rfl, S3, ⟨⟨_, _, hs4, hq3.1⟩, hkeep hk4, hq3.2⟩, hk4⟩⟩
  | exit i =>
   obtain ⟨hr, hs4, hk4⟩ := hfin (jump := some (.exit i)) hs3
   exact ⟨_, _, hr, .inr ⟨rfl, S3, .exit i, _, _, _, rfl, hs4, hq3⟩⟩
  | ret =>
   obtain ⟨hr, hs4, hk4⟩ := hfin (jump := some .ret) hs3
   exact ⟨_, _, hr, .inr ⟨rfl, S3, .ret, _, _, _, rfl, hs4, hq3⟩⟩
 ·
  refine ⟨⟨st, ρ, hs1.reob ?_, hS0⟩, Keeps.refl _ _, hI0⟩
  intro p hp
  simp only [obr, List.mem_cons] at hp
  rcases hp with rfl | rfl | hp
  ·exact ⟨hL1, rfl⟩
  ·exact ⟨hK1, rfl⟩
  ·exact hs1.obs p hp
 ·
  rintro e W2 ⟨v, rfl, (⟨S2, ⟨st1, ρ1, hsim0, hent⟩, hk, hip⟩ | ⟨S2, x, jc, s1, ρ1, hj, hsim, hq⟩)⟩
  ·obtain ⟨ρ2, hsim⟩ := Ent.sound hsim0 hent
   have hl2 := (hsim.obs (w.heap.size + 1, .loop (rec .ready none)) (by simp)).1
   have hr := run_endLoop (P := P) hl2 (by rw [hrec]; simp)
   have hsp := Sim.putObj (o' := .loop { rec .ready none with state := .exhausted }) (ds' := mark :: c.ds) hsim rfl rfl hl0 hobr
   have hp : (rec .ready none).pending = none := by rw [hrec]
   exact ⟨none, _, hr.trans (congrArg (fun p => Result.ok p _) hp), hR _ (hext _) .normal _ _ _ _ _ hsp (hQ hip)⟩
  ·have hl2 := (hsim.obs (w.heap.size + 1, .loop (rec .done (some jc))) (by simp)).1
   have hr := run_endLoop (P := P) hl2 (by rw [hrec]; simp)
   have hsp := Sim.putObj (o' := .loop { rec .done (some jc) with state := .exhausted }) (ds' := mark :: c.ds) hsim rfl rfl hl0 hobr
   have hp : (rec .done (some jc)).pending = some jc := by rw [hrec]
   refine ⟨some jc, _, hr.trans (congrArg (fun p => Result.ok p _) hp), ?_⟩
   cases x with
   | normal => cases hj
   | exit i => cases hj; exact wpIn_exit (hR _ (hext _) (.exit i) _ _ _ _ _ hsp hq)
   | ret => cases hj; exact wpIn_ret (hR _ (hext _) .ret _ _ _ _ _ hsp hq)
end Go.Abs
end
section
namespace Go.Abs
open Go.RowKit
variable {c : Ctx} {st : St} {tmps : Array Value} {w : World} {S : Safe} {ρ : Rho} {E : AEnv} {T : Nat → Option Ty}
theorem wrs_ops {ops : List Oper} {l : List (Option (Nat × Bool) × I)} (h : trOps T ops = some l) {o : Oper} (ho : o ∈ ops) {d : Nat} (hd : o.dst = some d) : d ∈ l.filterMap fun p => wrOf p.2 := by
 obtain ⟨hlen, hget⟩ := trOps_get h
 obtain ⟨k, hk, rfl⟩ := List.getElem_of_mem ho
 obtain ⟨gi, i, hl, htg, hti⟩ := hget k _ (List.getElem?_eq_getElem hk)
 refine List.mem_filterMap.2 ⟨(gi, i), List.mem_of_getElem? hl, ?_⟩
 have := trOp_dst hti
 cases i <;> simp only [DstIs, wrOf, dstOf] at this ⊢ <;> first
  | (rw [hd] at this; exact this.symm)
  | (rw [hd] at this; cases this)
theorem code_sound {P : Program} {G : Nat → Option (List D)} {N : Nat} (hG : E.G = G) (hC : ∀ f args r, E.C f args r → Ev P G f args r) (hIt : ∀ f caps xs, E.It f caps xs → ItOk P G f caps xs) (hT : ∀ t ty, T t = some ty → chkTy P t ty = true) (hm : P.follows .mixedOrders = true) :
  ∀ (cd : Code) (ac : AC), tr T N cd = some ac → ∀ ro : Option Nat, (ro.isSome = true → ac.noRng = true) → Sound E P G N cd ac ro := by
 intro cd
 induction cd with
 | skip =>
  intro ac htr ro hro m c hcP hcG hcN hw Q R hR st tmps w S ρ h hq
  cases htr
  exact wpIn_skip (hR c (Ext.refl c) (fun _ => rfl) .normal _ _ _ _ _ h hq)
 | region id ops draw =>
  intro ac htr ro hro m c hcP hcG hcN hw Q R hR st tmps w S ρ h hq
  simp only [tr, Option.bind_eq_bind] at htr
  cases hl : trOps T ops.toList with
  | none => simp [hl] at htr
  | some l =>
   simp only [hl, Option.bind_some] at htr
   split at htr
   ·rename_i hok
    have hlen : l.length = ops.toList.length := (trOps_get hl).1
    have hwl : ∀ d ∈ l.filterMap (fun p => wrOf p.2), c.kp d = false := by
     intro d hd
     split at htr
     ·split at htr
      ·cases htr
       exact hw d hd
      ·exact hw d (wrs_reg3 hlen htr d hd)
     ·cases htr; exact hw d hd
    have hdst : ∀ o ∈ ops.toList, ∀ d, o.dst = some d → c.D d := by
     intro o ho d hd
     simp only [okDst, List.all_eq_true] at hok
     have := hok o ho
     exact ⟨hcN ▸ (by simpa [hd] using this), hwl d (wrs_ops hl ho hd)⟩
    have hQ : ∀ a w, Goes c (Q .normal) a w → R .normal a w := by
     rintro ⟨tm, ds⟩ w ⟨hd, st', S', ρ', h', hq'⟩
     simp only at hd
     subst hd
     exact hR c (Ext.refl c) (fun _ => rfl) .normal _ _ _ _ _ h' hq'
    subst hcP
    subst hcG
    split at htr
    ·rename_i hdr
     subst hdr
     split at htr
     ·rename_i hdok
      cases htr
      exact regd_sound hG hC hT hm hl hdst hdok (FR.fw ro) m R hQ h hq
     ·exact regd3_sound hG hC hT hm hl hdst htr (FR.fw ro) m R hQ h hq
    ·rename_i hdr
     cases htr
     have : draw = false := by simpa using hdr
     subst this
     refine wpIn_region ?_
     rw [List.range_eq_range']
     exact ops_sound hG hC hT hl hdst (FR.fw ro) m R hQ ops.size 0 (by omega) h hq
   ·cases htr
 | seq x y ihx ihy =>
  intro ac htr ro hro m c hcP hcG hcN hw Q R hR st tmps w S ρ h hq
  simp only [tr, Option.bind_eq_bind, Option.pure_def, Option.bind_eq_some_iff, Option.some.injEq] at htr
  obtain ⟨a1, h1, a2, h2, rfl⟩ := htr
  simp only [AC.noRng, Bool.and_eq_true] at hro
  refine wpIn_seq (ihx a1 h1 ro (fun hs => (hro hs).1) m (c := c) hcP hcG hcN (fun d hd => hw d (List.mem_append_left _ hd)) (Q := seqK (awp E a2 Q) Q) ?_ h hq)
  intro c' hc' hcc e s tm w' S' ρ' hs hk
  cases e with
  | normal =>
   refine ihy a2 h2 ro (fun hs => (hro hs).2) m (c := c') (by obtain ⟨_, _, rfl, _⟩ := hc'; exact hcP) (by obtain ⟨_, _, rfl, _⟩ := hc'; exact hcG) (by obtain ⟨_, _, rfl, _⟩ := hc'; exact hcN)
    (fun d hd => by obtain ⟨_, _, rfl, _⟩ := hc'; exact hw d (List.mem_append_right _ hd)) ?_ hs hk
   intro c2 hc2 hcc2
   exact hR c2 (hc'.trans hc2) (fun hs => (hcc2 hs).trans (hcc hs))
  | exit i => exact hR c' hc' hcc (.exit i) _ _ _ _ _ hs hk
  | ret => exact hR c' hc' hcc .ret _ _ _ _ _ hs hk
 | cond x a b iha ihb =>
  intro ac htr ro hro m c hcP hcG hcN hw Q R hR st tmps w S ρ h hq
  simp only [tr, Option.bind_eq_bind, Option.pure_def, Option.bind_eq_some_iff, Option.some.injEq] at htr
  obtain ⟨x', hx, a1, h1, a2, h2, rfl⟩ := htr
  simp only [AC.noRng, Bool.and_eq_true] at hro
  simp only [awp] at hq
  split at hq
  ·rename_i p hp
   have hev := h.ev (ds := c.ds) hx hq.1
   rw [hp] at hev
   simp only [RepA, Rep] at hev
   exact wpIn_cond_split hev (fun ht => iha a1 h1 ro (fun hs => (hro hs).1) m hcP hcG hcN (fun d hd => hw d (List.mem_append_left _ hd)) hR h (hq.2.1 ht))
    (fun ht => ihb a2 h2 ro (fun hs => (hro hs).2) m hcP hcG hcN (fun d hd => hw d (List.mem_append_right _ hd)) hR h (hq.2.2 ht))
  ·exact hq.elim
 | block id x ih =>
  intro ac htr ro hro m c hcP hcG hcN hw Q R hR st tmps w S ρ h hq
  simp only [tr, Option.bind_eq_bind, Option.pure_def, Option.bind_eq_some_iff, Option.some.injEq] at htr
  obtain ⟨a1, h1, rfl⟩ := htr
  refine wpIn_block (ih a1 h1 ro hro m (c := c) hcP hcG hcN hw (Q := blockK id Q) ?_ h hq)
  intro c' hc' hcc e s tm w' S' ρ' hs hk
  cases e with
  | normal => exact hR c' hc' hcc .normal _ _ _ _ _ hs hk
  | exit i =>
   simp only [blockK] at hk
   simp only [AX.out, Exit.inBlock]
   split at hk
   ·rename_i hi; rw [if_pos hi]; exact hR c' hc' hcc .normal _ _ _ _ _ hs hk
   ·rename_i hi; rw [if_neg hi]; exact hR c' hc' hcc (.exit i) _ _ _ _ _ hs hk
  | ret => exact hR c' hc' hcc .ret _ _ _ _ _ hs hk
 | loop x ih =>
  intro ac htr ro hro m c hcP hcG hcN hw Q R hR st tmps w S ρ h hq
  simp only [tr, Option.bind_eq_bind, Option.pure_def, Option.bind_eq_some_iff, Option.some.injEq] at htr
  obtain ⟨a1, h1, rfl⟩ := htr
  refine wp_loop_inside ?_
  have key := hq (fun s => ∀ c', Ext c c' → (ro.isSome = true → c' = c) → ∀ (tm : Array Value) (w : World) (S : Safe) (ρ : Rho), Sim c' s tm w S ρ → Inside (FR ro) m P x R ⟨tm, c'.ds⟩ w) ?_
  ·exact key c (Ext.refl c) (fun _ => rfl) _ _ _ _ h
  ·intro s s1 he hb c' hc' hcc tm w' S' ρ' hs
   obtain ⟨ρ1, hs1⟩ := Ent.sound hs he
   refine inside_round (ih a1 h1 ro hro m (c := c') (by obtain ⟨_, _, rfl, _⟩ := hc'; exact hcP) (by obtain ⟨_, _, rfl, _⟩ := hc'; exact hcG) (by obtain ⟨_, _, rfl, _⟩ := hc'; exact hcN)
    (fun d hd => by obtain ⟨_, _, rfl, _⟩ := hc'; exact hw d hd) (Q := seqK _ Q) ?_ hs1 hb)
   intro c2 hc2 hcc2 e s2 tm2 w2 S2 ρ2 hs2 hk
   cases e with
   | normal => exact hk c2 (hc'.trans hc2) (fun h => (hcc2 h).trans (hcc h)) tm2 w2 S2 ρ2 hs2
   | exit i => exact hR c2 (hc'.trans hc2) (fun h => (hcc2 h).trans (hcc h)) (.exit i) _ _ _ _ _ hs2 hk
   | ret => exact hR c2 (hc'.trans hc2) (fun h => (hcc2 h).trans (hcc h)) .ret _ _ _ _ _ hs2 hk
 | exit id =>
  intro ac htr ro hro m c hcP hcG hcN hw Q R hR st tmps w S ρ h hq
  cases htr
  exact wpIn_exit (hR c (Ext.refl c) (fun _ => rfl) (.exit id) _ _ _ _ _ h hq)
 | ret =>
  intro ac htr ro hro m c hcP hcG hcN hw Q R hR st tmps w S ρ h hq
  cases htr
  exact wpIn_ret (hR c (Ext.refl c) (fun _ => rfl) .ret _ _ _ _ _ h hq)
 | rangeFunc g ps assign body iha ihb =>
  intro ac htr ro hro m c hcP hcG hcN hw Q R hR st tmps w S ρ h hq
  simp only [tr, Option.bind_eq_bind, Option.bind_eq_some_iff] at htr
  obtain ⟨g', hg', a, ha, b, hb, htr⟩ := htr
  split at htr
  ·rename_i hck
   simp only [Bool.and_eq_true, List.all_eq_true, decide_eq_true_eq] at hck
   cases htr
   simp only [AC.noRng] at hro
   have hro' : ro = none := by cases ro with | none => rfl | some l => exact absurd (hro rfl) (by simp)
   subst hro'
   simp only [awp] at hq
   split at hq
   ·rename_i f caps hv
    obtain ⟨hgd, xs, hxs, hL⟩ := hq
    exact rng_sound hIt hg' (fun l => iha a ha (some l) fun _ => hck.1.1) (fun l => ihb b hb (some l) fun _ => hck.1.2) hck.2 m hcP hcG hcN (fun c' hc' => hR c' hc' (fun h => by cases h)) h hv hgd hxs hL
   ·exact hq.elim
  ·cases htr
 | _ => intro ac htr; cases htr
end Go.Abs
end
section
namespace Go.Abs
open Go.RowKit
variable {c : Ctx} {st : St} {tmps : Array Value} {w : World} {S : Safe} {ρ : Rho} {E : AEnv} {T : Nat → Option Ty}
def rvRun (tmps : Array Value) : ResultVar → Sem Value
 | .tmp t => pure (tmps.getD t undef)
 | .cell a t => do loadVar t (← asAddr (tmps.getD a undef))
theorem results_eq (fn : Func) (tmps : Array Value) : results fn tmps = (do
  let vs ← fn.results.mapM (rvRun tmps)
  pure (if h : vs.size = 1 then vs[0] else .tuple vs)) := rfl
theorem resAV_sound (h : Sim c st tmps w S ρ) (hT : ∀ t ty, T t = some ty → chkTy c.P t ty = true) {rv : ResultVar} {x : R} (htr : trRes T rv = some x) {a : AV} (ha : resAV st x = some a) :
  ∃ v, (rvRun tmps rv).run c.P w = .ok v w ∧ RepA w S ρ a v := by
 cases rv with
 | tmp t =>
  cases htr
  cases ha
  exact ⟨_, rfl, h.slots t⟩
 | cell s t =>
  simp only [trRes, Option.bind_eq_bind, Option.pure_def, Option.bind_eq_some_iff, Option.some.injEq] at htr
  obtain ⟨ty, hty, rfl⟩ := htr
  simp only [resAV] at ha
  split at ha
  ·rename_i k off hk
   split at ha
   ·rename_i cs hcs
    cases ha
    have hsl := h.slots s
    rw [hk] at hsl
    obtain ⟨b, hb, hv⟩ := hsl
    unfold rdMem at hcs
    split at hcs
    ·rename_i bx hbx
     split at hcs
     ·rename_i hlt
      cases hcs
      obtain ⟨b', vs, e, h1, h2, h3, h4, h6⟩ := h.mem k bx hbx (h.noMp hb hbx)
      obtain rfl := Option.some.inj (hb.symm.trans h1)
      have hlen := RepAs.length h4
      have hra := RepAs.take (tySize ty) (RepAs.drop off h4)
      obtain ⟨v, hrun, hv2⟩ := run_loadVar (w := w) (hT _ _ hty) (b := b) (o := off) (l := (vs.toList.drop off).take (tySize ty)) (by simp at hlen ⊢; omega) (fun j v hj => by
       rw [List.getElem?_take] at hj
       split at hj
       ·simp only [List.getElem?_drop] at hj
        simp [World.cell?, h3]
        simpa using hj
       ·cases hj)
      refine ⟨v, by simp only [rvRun, hv]; simp [asAddr, hrun], ?_⟩
      cases hag : tyAgg ty with
      | true => simp only [hag, if_true] at hv2; subst hv2; exact ⟨_, rfl, by simpa using hra⟩
      | false =>
       simp only [hag, Bool.false_eq_true, if_false] at hv2
       rw [hv2] at hra
       generalize hcc : (bx.drop off).take (tySize ty) = cc at hra
       cases cc with
       | nil => simp [RepAs] at hra
       | cons a0 r0 => obtain ⟨v', r', q1, q2, q3⟩ := hra; cases q1; exact q2
     ·cases hcs
    ·cases hcs
   ·cases ha
  ·cases ha
theorem results_sound (h : Sim c st tmps w S ρ) (hT : ∀ t ty, T t = some ty → chkTy c.P t ty = true) {S' : Safe} (hk : ∀ (a : AV) (v : Value), RepA w S ρ a v → RepA w S' ρ a v) (hth : Through w S' ρ st.mem) : ∀ {rvs : List ResultVar} {rs : List R} {l : List CV}, rvs.mapM (trRes T) = some rs → resCVs st rs = some l →
  ∃ vs, (rvs.mapM (rvRun tmps)).run c.P w = .ok vs w ∧ RepCL w S' l vs
 | [], rs, l, htr, hl => by
  simp at htr; subst htr
  simp only [resCVs, Option.some.injEq] at hl; subst hl
  exact ⟨[], by simp, rfl⟩
 | rv :: rvs, rs, l, htr, hl => by
  simp only [List.mapM_cons, Option.bind_eq_bind, Option.bind_eq_some_iff, Option.pure_def, Option.some.injEq] at htr
  obtain ⟨x, hx, xs, hxs, rfl⟩ := htr
  simp only [resCVs] at hl
  split at hl
  ·rename_i y ys hy hys
   cases hl
   unfold resCV at hy
   split at hy
   ·rename_i a ha
    obtain ⟨v, hrun, hrep⟩ := resAV_sound h hT hx ha
    obtain ⟨vs, hrun2, hrep2⟩ := results_sound h hT hk hth hxs hys
    refine ⟨v :: vs, ?_, ⟨v, vs, rfl, toCV_rep hth 4 (hk a v hrep) hy, hrep2⟩⟩
    simp only [List.mapM_cons, Sem.run_bind, hrun, Result.andThen_ok, hrun2, Sem.run_pure]
   ·cases hy
  ·cases hl
theorem resCVs_one {st : St} {x : R} {r : CV} (h : resCV st x = some r) : resCVs st [x] = some [r] := by simp [resCVs, h]
theorem resCVs_len {st : St} : ∀ {rs : List R} {l : List CV}, resCVs st rs = some l → l.length = rs.length
 | [], l, h => by simp only [resCVs, Option.some.injEq] at h; subst h; rfl
 | x :: xs, l, h => by
  simp only [resCVs] at h
  split at h
  ·cases h; simp [resCVs_len ‹_›]
  ·cases h
theorem initSlots_get : ∀ {args : List CV} {vs : List Value} {k : Nat}, RepCL w S args vs → ∀ j, RepA w S ρ (getS (initSlots k args) j) (if j < k then undef else vs.getD (j - k) undef) ∨ getS (initSlots k args) j = .undef
 | [], vs, k, h, j => .inr rfl
 | x :: xs, _, k, ⟨v, r, h, h1, h2⟩, j => by
  subst h
  simp only [initSlots, getS]
  by_cases hj : k = j
  ·subst hj
   rw [if_pos rfl]
   left
   simpa using RepC.toAV h1
  ·rw [if_neg hj]
   rcases initSlots_get (k := k + 1) h2 j with h3 | h3
   ·by_cases hjk : j < k
    ·right
     have : ∀ (args : List CV) (k j : Nat), j < k → getS (initSlots k args) j = .undef := by
      intro args
      induction args with
      | nil => intro k j _; rfl
      | cons a as ih => intro k j hjk; simp only [initSlots, getS]; rw [if_neg (by omega)]; exact ih (k + 1) j (by omega)
     exact this xs (k + 1) j (by omega)
    ·left
     rw [if_neg (by omega)] at h3
     rw [if_neg hjk]
     have e : j - k = (j - (k + 1)) + 1 := by omega
     rw [e]
     simpa using h3
   ·exact .inr h3
theorem RepCL.length : ∀ {as : List CV} {l : List Value}, RepCL w S as l → l.length = as.length
 | [], _, h => by simp only [RepCL] at h; subst h; rfl
 | _ :: _, _, ⟨v, r, h, _, h2⟩ => by subst h; simp [RepCL.length h2]
theorem Sim.shut (h : Sim c st tmps w S ρ) {D : Nat} (hob : (D, Obj.deferred (some [])) ∈ c.ob) (hl : c.w0.heap.size ≤ D) : Sim { c with ob := c.ob.filter (fun p => !(p.1 == D)) } st tmps (w.putObj D (.deferred none)) S ρ := by
 have h0 := h.obs _ hob
 have h1 : Sim { c with ob := (D, .deferred (some [])) :: c.ob.filter (fun p => !(p.1 == D)), ds := c.ds } st tmps w S ρ := h.reob (fun p hp => by
  simp only [List.mem_cons] at hp
  rcases hp with rfl | hp
  ·exact h0
  ·exact h.obs p (List.mem_filter.1 hp).1)
 have h2 := Sim.putObj (o' := .deferred none) (ds' := c.ds) h1 rfl rfl hl (fun p hp => by simpa using (List.mem_filter.1 hp).2)
 exact h2.reob (fun p hp => h2.obs p (by simp [hp]))
theorem leaves_marks {fn : Func} {R : Ending → World → Prop} {P : Program} (hfin : ∀ (c' : Ctx) (w' : World), c'.P = c.P → c'.G = c.G → c'.w0 = c.w0 → c'.S0 = c.S0 → c'.X = c.X → c'.kx = c.kx → c'.pin = c.pin → c'.mpin = c.mpin → Sim c' st tmps w' S ρ → ∃ v, (results fn tmps).run P w' = .ok v w' ∧ R (.returned v) w') :
  ∀ (Ds : List Nat) {ob : List (Nat × Obj)} {w : World}, Ds.Nodup → (∀ D ∈ Ds, (D, Obj.deferred (some [])) ∈ ob) → (∀ D ∈ Ds, c.w0.heap.size ≤ D) → Sim { c with ob := ob } st tmps w S ρ → LeavesInM Fence.wide 0 P fn tmps R (Ds.map markOf) .returning w
 | [], ob, w, _, _, _, h => hfin { c with ob := ob } _ rfl rfl rfl rfl rfl rfl rfl rfl h
 | D :: Ds, ob, w, hn, hm, hb, h => by
  obtain ⟨hn1, hn2⟩ := List.nodup_cons.1 hn
  have hk := (h.obs _ (hm D (by simp))).1
  refine ⟨by simp, .inl ⟨D, _, rfl, run_takeDeferred hk, ?_⟩⟩
  refine leaves_marks hfin Ds hn2 (fun D' hD' => List.mem_filter.2 ⟨hm D' (by simp [hD']), by simp; rintro rfl; exact hn1 hD'⟩) (fun D' hD' => hb D' (by simp [hD'])) (h.shut (hm D (by simp)) (hb D (by simp)))
def GivesO (P : Program) (w : World) (S : Safe) (X : List Nat) (sz : Nat) (es : List (List D)) : Ending → World → Prop := fun e w' => ∃ v S', e = .returned v ∧ Rep w' S' (.lst es) v ∧ (∀ e ∈ es, e.length = sz) ∧ Room (OwnX P w X) w' S' sz v ∧ BelowO (OwnX P w X) w w' ∧ Keeps w S w' S' ∧ (∀ b o, S' b o → S b o ∨ OwnX P w X b) ∧ Live w' S'
theorem Ctx.own_eq {c : Ctx} {P : Program} {w : World} {X : List Nat} (h1 : c.P = P) (h2 : c.w0 = w) (h3 : c.X = X) : c.Own = OwnX P w X := by
 subst h1 h2 h3; rfl
theorem body_endO {P : Program} {G : Nat → Option (List D)} {w : World} {S : Safe} {N : Nat} {fn : Func} {rs : List R} {X : List Nat} {sz : Nat} {es : List (List D)} {T : Nat → Option Ty} (hT : ∀ t ty, T t = some ty → chkTy P t ty = true) (hrs : fn.results.toList.mapM (trRes T) = some rs)
  {c' : Ctx} (hc : Ext { P := P, G := G, w0 := w, S0 := S, N := N, X := X, kx := some (w, S) } c') {st : St} {tmps : Array Value} {w' : World} {S' : Safe} {ρ' : Rho} (hs : Sim c' st tmps w' S' ρ') (hret : retOwn st sz es rs) : LeavesInM Fence.wide 0 P fn tmps (GivesO P w S X sz es) c'.ds .returning w' := by
 obtain ⟨ob', Ds, rfl, h1, h2, h3, h4⟩ := hc
 simp only [List.append_nil]
 refine leaves_marks (c := { P := P, G := G, w0 := w, S0 := S, N := N, X := X, kx := some (w, S), ds := (Ds.map markOf) }) ?_ Ds (ob := ob') h1 h2 (fun D hD => h4 _ (h2 D hD)) (by simpa using hs)
 intro c2 w2 e1 e2 e3 e4 e5 e6 _ _ hs
 simp only at e1 e2 e3 e4 e5 e6
 have hown := Ctx.own_eq e1 e3 e5
 cases rs with
 | nil => exact hret.elim
 | cons x rs =>
 cases rs with
 | cons y rs => exact hret.elim
 | nil =>
 have hone : ∃ rv, fn.results.toList = [rv] ∧ trRes T rv = some x := by
  generalize fn.results.toList = l at hrs
  cases l with
  | nil => simp at hrs
  | cons rv l =>
   simp only [List.mapM_cons, Option.bind_eq_bind, Option.bind_eq_some_iff, Option.pure_def, Option.some.injEq] at hrs
   obtain ⟨x', hx, xs, hxs, hrs⟩ := hrs
   cases hrs
   cases l with
   | nil => exact ⟨rv, rfl, hx⟩
   | cons rv2 l =>
    simp only [List.mapM_cons, Option.bind_eq_bind, Option.bind_eq_some_iff, Option.pure_def, Option.some.injEq] at hxs
    obtain ⟨_, _, _, _, hxs⟩ := hxs
    cases hxs
 obtain ⟨rv, hrv, htx⟩ := hone
 have hfin : ∀ v, (rvRun tmps rv).run c2.P w2 = .ok v w2 → (results fn tmps).run P w2 = .ok v w2 := by
  intro v hrun
  have hrun : (rvRun tmps rv).run P w2 = .ok v w2 := by rw [← e1]; exact hrun
  rw [results_eq, Array.mapM_eq_mapM_toList, hrv]
  simp only [List.mapM_cons, List.mapM_nil, Sem.run_bind, Sem.run_map, hrun]
  simp
 have hrest : BelowO (OwnX P w X) w w2 ∧ Keeps w S w2 S' ∧ (∀ b o, S' b o → S b o ∨ OwnX P w X b) ∧ Live w2 S' := by
  refine ⟨?_, hs.keeps (w, S) e6, fun b o hso => ?_, hs.live⟩
  ·have := hs.below
   unfold BelowC at this
   rw [hown, e3] at this
   exact this
  ·have := hs.new b o hso
   rw [hown, e4] at this
   exact this
 simp only [retOwn] at hret
 split at hret
 ·rename_i t sz' es' ha
  obtain ⟨rfl, rfl, ht⟩ := hret
  obtain ⟨v, hrun, hl, hlen, base, n, cap, htok, hv⟩ := resAV_sound hs (e1 ▸ hT) htx ha
  refine ⟨v, hfin v hrun, v, S', rfl, hl, hlen, ⟨base, n, cap, hv, ?_⟩, hrest⟩
  obtain ⟨y, g1, g2⟩ := hs.tok t ht
  rw [htok] at g1
  cases g1
  rcases g2 with g2 | ⟨b, k0, k1, k2, k3, k4, k5, k6, k7⟩
  ·exact .inl g2
  ·exact .inr ⟨b, k0, hown ▸ k1, k2, k3, k4, k5⟩
 ·rename_i es' ha
  obtain ⟨rfl, hlen⟩ := hret
  obtain ⟨v, hrun, hl, base, n, hv⟩ := resAV_sound hs (e1 ▸ hT) htx ha
  exact ⟨v, hfin v hrun, v, S', rfl, hl, hlen, ⟨base, n, n, hv, .inl rfl⟩, hrest⟩
 ·exact hret.elim
def Gives (w : World) (S : Safe) (r : CV) : Ending → World → Prop := fun e w' => ∃ v S', e = .returned v ∧ RepC w' S' r v ∧ Below w.heap.size w w' ∧ (∀ b o, S b o → S' b o) ∧ (∀ b o, S' b o → S b o ∨ w.heap.size ≤ b) ∧ Live w' S'
theorem body_end {P : Program} {G : Nat → Option (List D)} {w : World} {S : Safe} {N : Nat} {fn : Func} {rs : List R} {r : CV} {T : Nat → Option Ty} (hT : ∀ t ty, T t = some ty → chkTy P t ty = true) (hrs : fn.results.toList.mapM (trRes T) = some rs)
  {c' : Ctx} (hc : Ext { P := P, G := G, w0 := w, S0 := S, N := N } c') {st : St} {tmps : Array Value} {w' : World} {S' : Safe} {ρ' : Rho} (hs : Sim c' st tmps w' S' ρ') (hret : retOk st r rs) : LeavesInM Fence.wide 0 P fn tmps (Gives w S r) c'.ds .returning w' := by
 obtain ⟨ob', Ds, rfl, h1, h2, h3, h4⟩ := hc
 simp only [List.append_nil]
 refine leaves_marks (c := { P := P, G := G, w0 := w, S0 := S, N := N, ds := (Ds.map markOf) }) ?_ Ds (ob := ob') h1 h2 (fun D hD => h4 _ (h2 D hD)) (by simpa using hs)
 intro c2 w2 e1 e2 e3 e4 e5 _ _ _ hs
 obtain ⟨S2, e1', e2', e3', e4', e5'⟩ := hs.close
 simp only at e1 e2 e3 e4
 have hl : ∃ l, resCVs st rs = some l ∧ ((∃ y, rs = [y] ∧ l = [r]) ∨ (rs.length ≠ 1 ∧ r = .tup l)) := by
  unfold retOk at hret
  split at hret
  ·rename_i y; exact ⟨[r], resCVs_one hret, .inl ⟨y, rfl, rfl⟩⟩
  ·rename_i hne
   split at hret
   ·rename_i l hl
    refine ⟨l, hl, .inr ⟨fun h1 => ?_, hret⟩⟩
    obtain ⟨y, hy⟩ := List.length_eq_one_iff.1 h1
    exact hne y hy
   ·exact hret.elim
 obtain ⟨l, hl, hcase⟩ := hl
 obtain ⟨vs, hrun, hrep⟩ := results_sound hs (e1 ▸ hT) e4' e5' hrs hl
 rw [e1] at hrun
 have hvl := RepCL.length hrep
 have hll := resCVs_len hl
 have hrun' : (results fn tmps).run P w2 = .ok (if h : vs.toArray.size = 1 then vs.toArray[0] else .tuple vs.toArray) w2 := by
  rw [results_eq, Array.mapM_eq_mapM_toList]
  have hrunP : (fn.results.toList.mapM (rvRun tmps)).run P w2 = .ok vs w2 := hrun
  simp only [Sem.run_bind, Sem.run_map, hrunP]
  simp
 have hbel : Below w.heap.size w w2 := by have := hs.below.below e5; rwa [e3] at this
 refine ⟨_, hrun', _, S2, rfl, ?_, hbel, fun b o hso => e1' b o (hs.old b o (e4 ▸ hso)), fun b o hso => ?_, e3'⟩
 ·rcases hcase with ⟨y, hy, hlr⟩ | ⟨hne, hr'⟩
  ·subst hlr
   obtain ⟨v, r', q1, q2, q3⟩ := hrep
   simp only [RepCL] at q3
   subst q3
   subst q1
   simpa using q2
  ·rw [dif_neg (by simp; omega), hr']
   exact ⟨_, rfl, by simpa using hrep⟩
 ·rcases e2' b o hso with h1 | h1
  ·rcases hs.new b o h1 with h2 | h2
   ·exact .inl (e4 ▸ h2)
   ·exact .inr (e3 ▸ Ctx.own_nil e5 h2)
  ·exact .inr (e3 ▸ Ctx.own_nil e5 h1)
theorem init_sim {P : Program} {G : Nat → Option (List D)} {w : World} {S : Safe} {fn : Func} {args : List CV} {cargs : Array Value} (hn : args.length ≤ fn.ntmps) (hlive : Live w S) (hglob : GlobOk P G w S) (hargs : RepCL w S args cargs.toList) :
  Sim { P := P, G := G, w0 := w, S0 := S, N := fn.ntmps } ⟨initSlots 0 args, [], []⟩ (cargs ++ Array.replicate (fn.ntmps - cargs.size) undef) w S ⟨fun _ => none, fun _ => none, fun _ => none⟩ := by
 have hlen := RepCL.length hargs
 simp only [Array.length_toList] at hlen
 refine { size := by simp; omega, slots := fun k => ?_, mem := fun s cs hs => (by simp [getM] at hs), inj := fun s s' b hs => (by cases hs), boxNew := fun _ _ => rfl, mps := { at' := fun s k e kvs hs => (by simp [getM] at hs), inj := fun s s' b hs => (by cases hs), new := fun _ _ => rfl, lt := fun s b hs => (by cases hs), apart := fun s b hs => (by cases hs) }, tok := fun t ht => (by simp [getT] at ht), tokNew := fun _ _ => rfl,
          below := BelowO.refl _, old := fun _ _ hs => hs, new := fun _ _ hs => .inl hs, live := hlive, glob := hglob.1, ex := hglob.2, fx := fun k hk => (by cases hk), obs := fun p hp => (by cases hp), keeps := fun p hp => (by cases hp), pins := Pins.nil rfl rfl }
 rcases initSlots_get (ρ := ⟨fun _ => none, fun _ => none, fun _ => none⟩) (k := 0) hargs k with h1 | h1
 ·rw [if_neg (by omega)] at h1
  have : (cargs ++ Array.replicate (fn.ntmps - cargs.size) undef).getD k undef = cargs.toList.getD (k - 0) undef := by
   simp only [Array.getD_eq_getD_getElem?, Nat.sub_zero, List.getD_eq_getElem?_getD, Array.getElem?_toList]
   by_cases hk : k < cargs.size
   ·rw [Array.getElem?_append_left hk]
   ·have hnone : cargs[k]? = none := Array.getElem?_eq_none (by omega)
    rw [Array.getElem?_append_right (by omega), hnone]
    by_cases hk2 : k - cargs.size < fn.ntmps - cargs.size
    ·simp [hk2]
    ·simp [hk2]
  rw [this]; exact h1
 ·rw [h1]; trivial
theorem init_simO {P : Program} {G : Nat → Option (List D)} {w : World} {S : Safe} {fn : Func} {args : List CV} {cargs : Array Value} {X : List Nat} {sz : Nat} {a : Option Nat} (hn : args.length ≤ fn.ntmps) (hlive : Live w S) (hglob : GlobOk P G w S) (hargs : RepCL w S args cargs.toList) (hX : TakesX P w S X args cargs.toList sz a) :
  ∃ ρ, Sim { P := P, G := G, w0 := w, S0 := S, N := fn.ntmps, X := X, kx := some (w, S) } (initO args sz a) (cargs ++ Array.replicate (fn.ntmps - cargs.size) undef) w S ρ := by
 have h0 := init_sim hn hlive hglob hargs
 have h1 : Sim { P := P, G := G, w0 := w, S0 := S, N := fn.ntmps, X := X, kx := some (w, S) } ⟨initSlots 0 args, [], []⟩ (cargs ++ Array.replicate (fn.ntmps - cargs.size) undef) w S ⟨fun _ => none, fun _ => none, fun _ => none⟩ :=
  { size := h0.size, slots := h0.slots, mem := fun s cs hs => (by simp [getM] at hs), inj := fun s s' b hs => (by cases hs), boxNew := fun _ _ => rfl, mps := { at' := fun s k e kvs hs => (by simp [getM] at hs), inj := fun s s' b hs => (by cases hs), new := fun _ _ => rfl, lt := fun s b hs => (by cases hs), apart := fun s b hs => (by cases hs) }, tok := fun t ht => (by simp [getT] at ht), tokNew := fun _ _ => rfl,
    below := BelowO.refl _, old := fun _ _ hs => hs, new := fun _ _ hs => .inl hs, live := hlive, glob := hglob.1, ex := hglob.2, fx := fun k hk => (by cases hk), obs := fun p hp => (by cases hp), keeps := fun p hp => (by cases hp; exact Keeps.refl _ _), pins := Pins.nil rfl rfl }
 cases a with
 | none => exact ⟨_, h1⟩
 | some k =>
  obtain ⟨es, v, g1, g2, g3, base, n, cap, hv, hr⟩ := hX
  obtain ⟨ρ', hle, htok, hs⟩ := h1.newTok (d := k) rfl none (tk' := [(k, true)]) (fun t => by
   simp only [getT, reduceCtorEq, if_false]
   by_cases ht : k = t
   ·subst ht; simp
   ·rw [if_neg ht, if_neg (fun e => ht e.symm)]) (base, n, cap, sz) (by
   rcases hr with hr | ⟨b, k0, ⟨k1, k1'⟩, k2, k3, k4, k5⟩
   ·exact .inl hr
   ·exact .inr ⟨b, k0, .inr ⟨by rw [k1]; simp, k1'⟩, k2, k3, k4, k5, fun s hs => (by cases hs), fun t b' y _ ht => (by simp [getT] at ht)⟩)
  refine ⟨ρ', ?_⟩
  have hk : args.getD k (.one .nilp) = .one (.lst es) := by simp [List.getD, g1]
  simp only [initO, hk]
  refine { hs with slots := fun j => ?_ }
  simp only [getS]
  by_cases hj : k = j
  ·subst hj
   rw [if_pos rfl]
   have hval : (cargs ++ Array.replicate (fn.ntmps - cargs.size) undef).getD k undef = v := by
    have g3' : cargs[k]? = some v := by simpa using g3
    have hlt := (Array.getElem?_eq_some_iff.1 g3').1
    rw [Array.getD_eq_getD_getElem?, Array.getElem?_append_left hlt, g3']
    rfl
   rw [hval]
   have hrep : ∀ {args : List CV} {l : List Value} {k : Nat} {v : Value} {es : List (List D)}, RepCL w S args l → args[k]? = some (.one (.lst es)) → l[k]? = some v → Rep w S (.lst es) v := by
    intro args
    induction args with
    | nil => intro l k v es _ h1; simp at h1
    | cons x xs ih =>
     intro l k v es ⟨v', r, e, q1, q2⟩ h1 h2
     subst e
     cases k with
     | zero => simp at h1 h2; subst h1 h2; exact q1
     | succ k => exact ih q2 (by simpa using h1) (by simpa using h2)
   exact ⟨hrep hargs g1 g3, g2, base, n, cap, htok, hv⟩
  ·rw [if_neg hj]; exact hs.slots j
def BodyD (E : AEnv) (f : FnA) (args : List CV) (r : CV) : Prop := args.length ≤ f.n ∧ awp E f.ac (retK f.rs r) ⟨initSlots 0 args, [], []⟩
theorem ev_of_bodyO {P : Program} {G : Nat → Option (List D)} {f : FuncId} {fn : Func} {fa : FnA} {args : List CV} {a : Option Nat} {sz : Nat} {es : List (List D)} (hf : P.funcs[f]? = some fn) (htr : trFn T fn = some fa)
  (hC : ∀ f args r, E.C f args r → Ev P G f args r) (hIt : ∀ f caps xs, E.It f caps xs → ItOk P G f caps xs) (hG : E.G = G) (hT : ∀ t ty, T t = some ty → chkTy P t ty = true) (hm : P.follows .mixedOrders = true) (h : args.length ≤ fa.n ∧ awp E fa.ac (retKO fa.rs sz es) (initO args sz a)) : EvOwn P G f args a sz es := by
 simp only [trFn] at htr
 split at htr
 ·cases htr
 ·rename_i hname
  simp only [Option.bind_eq_bind, Option.pure_def, Option.bind_eq_some_iff, Option.some.injEq] at htr
  obtain ⟨cd, hcd, ac, hac, rs, hrs, rfl⟩ := htr
  obtain ⟨hn, hawp⟩ := h
  simp only at hn hawp
  refine ⟨⟨fn, hf, by simpa using hname, by simp [hcd]⟩, ?_⟩
  intro w S cargs X hlive hglob hargs hX
  obtain ⟨ρ, hsim⟩ := init_simO (P := P) hn hlive hglob hargs hX
  refine callsIn_wide.1 (callsIn_of_wp_marks (n := 0) (R := GivesO P w S X sz es) hf hcd trivial ?_)
  refine code_sound hG hC hIt hT hm cd ac hac none (fun h => by cases h) 0 (c := { P := P, G := G, w0 := w, S0 := S, N := fn.ntmps, X := X, kx := some (w, S) }) rfl rfl rfl (fun _ _ => rfl) ?_ hsim hawp
  intro c' hc' _ x st tmps w' S' ρ' hs hr
  cases x with
  | normal => exact body_endO hT hrs hc' hs hr
  | exit i => exact hr.elim
  | ret => exact body_endO hT hrs hc' hs hr
theorem ev_of_bodyD {P : Program} {G : Nat → Option (List D)} {f : FuncId} {fn : Func} {fa : FnA} {args : List CV} {r : CV} (hf : P.funcs[f]? = some fn) (htr : trFn T fn = some fa)
  (hC : ∀ f args r, E.C f args r → Ev P G f args r) (hIt : ∀ f caps xs, E.It f caps xs → ItOk P G f caps xs) (hG : E.G = G) (hT : ∀ t ty, T t = some ty → chkTy P t ty = true) (hm : P.follows .mixedOrders = true) (h : BodyD E fa args r) : EvD P G f args r := by
 simp only [trFn] at htr
 split at htr
 ·cases htr
 ·rename_i hname
  simp only [Option.bind_eq_bind, Option.pure_def, Option.bind_eq_some_iff, Option.some.injEq] at htr
  obtain ⟨cd, hcd, ac, hac, rs, hrs, rfl⟩ := htr
  obtain ⟨hn, hawp⟩ := h
  simp only at hn hawp
  refine ⟨⟨fn, hf, by simpa using hname, by simp [hcd]⟩, ?_⟩
  intro w S cargs hlive hglob hargs
  have hsim := init_sim (P := P) hn hlive hglob hargs
  refine callsIn_wide.1 (callsIn_of_wp_marks (n := 0) (R := Gives w S r) hf hcd trivial ?_)
  refine code_sound hG hC hIt hT hm cd ac hac none (fun h => by cases h) 0 (c := { P := P, G := G, w0 := w, S0 := S, N := fn.ntmps }) rfl rfl rfl (fun _ _ => rfl) ?_ hsim hawp
  intro c' hc' _ x st tmps w' S' ρ' hs hr
  cases x with
  | normal => exact body_end hT hrs hc' hs hr
  | exit i => exact hr.elim
  | ret => exact body_end hT hrs hc' hs hr
theorem results_sound0 (h : Sim c st tmps w S ρ) (hT : ∀ t ty, T t = some ty → chkTy c.P t ty = true) : ∀ {rvs : List ResultVar} {rs : List R} {l : List CV}, rvs.mapM (trRes T) = some rs → resCVs0 st rs = some l →
  ∃ vs, (rvs.mapM (rvRun tmps)).run c.P w = .ok vs w ∧ RepCL w S l vs
 | [], rs, l, htr, hl => by
  simp at htr; subst htr
  simp only [resCVs0, Option.some.injEq] at hl; subst hl
  exact ⟨[], by simp, rfl⟩
 | rv :: rvs, rs, l, htr, hl => by
  simp only [List.mapM_cons, Option.bind_eq_bind, Option.bind_eq_some_iff, Option.pure_def, Option.some.injEq] at htr
  obtain ⟨x, hx, xs, hxs, rfl⟩ := htr
  simp only [resCVs0] at hl
  split at hl
  ·rename_i y ys hy hys
   cases hl
   unfold resCV0 at hy
   split at hy
   ·rename_i a ha
    obtain ⟨v, hrun, hrep⟩ := resAV_sound h hT hx ha
    obtain ⟨vs, hrun2, hrep2⟩ := results_sound0 h hT hxs hys
    refine ⟨v :: vs, ?_, ⟨v, vs, rfl, toCV_rep (m := []) through_nil 1 hrep hy, hrep2⟩⟩
    simp only [List.mapM_cons, Sem.run_bind, hrun, Result.andThen_ok, hrun2, Sem.run_pure]
   ·cases hy
  ·cases hl
theorem resCVs0_one {st : St} {x : R} {r : CV} (h : resCV0 st x = some r) : resCVs0 st [x] = some [r] := by simp [resCVs0, h]
theorem resCVs0_len {st : St} : ∀ {rs : List R} {l : List CV}, resCVs0 st rs = some l → l.length = rs.length
 | [], l, h => by simp only [resCVs0, Option.some.injEq] at h; subst h; rfl
 | x :: xs, l, h => by
  simp only [resCVs0] at h
  split at h
  ·cases h; simp [resCVs0_len ‹_›]
  ·cases h
theorem RepCL.length' : ∀ {as : List CV} {l : List Value}, RepCL w S as l → l.length = as.length
 | [], _, h => by simp only [RepCL] at h; subst h; rfl
 | _ :: _, _, ⟨v, r, h, _, h2⟩ => by subst h; simp [RepCL.length' h2]
theorem Sim.toB {m1 : Mem} {t1 : List (Nat × Bool)} {c : Ctx} {tmps : Array Value} {w : World} {S : Safe} {ρ : Rho} (h : Sim c ⟨[], m1, t1⟩ tmps w S ρ) : Sim (ctxB c.P c.G c.w0 c.S0 c.X c.pin c.mpin c.kx) ⟨[], m1, t1⟩ #[] w S ρ :=
 { size := rfl, slots := fun _ => trivial, mem := h.mem, inj := h.inj, boxNew := h.boxNew, mps := h.mps, tok := h.tok, tokNew := h.tokNew, below := h.below, old := h.old, new := h.new, live := h.live, glob := h.glob, ex := h.ex,
   fx := fun k hk => (by cases hk), obs := fun p hp => (by cases hp), keeps := h.keeps, pins := ⟨fun p hp => ⟨Nat.zero_le _, (h.pins.1 p hp).2⟩, fun p hp => ⟨Nat.zero_le _, (h.pins.2 p hp).2⟩⟩ }
def GivesB (P : Program) (G : Nat → Option (List D)) (w : World) (S : Safe) (X : List Nat) (pin mpin : List (Nat × Nat)) (r : CV) (m1 : Mem) (t1 : List (Nat × Bool)) : Ending → World → Prop := fun e w' =>
 ∃ v S' ρ', e = .returned v ∧ RepC w' S' r v ∧ Sim (ctxB P G w S X pin mpin (some (w, S))) ⟨[], m1, t1⟩ #[] w' S' ρ'
theorem body_endB {P : Program} {G : Nat → Option (List D)} {w : World} {S : Safe} {N : Nat} {fn : Func} {rs : List R} {X : List Nat} {pin mpin : List (Nat × Nat)} {r : CV} {m1 : Mem} {t1 : List (Nat × Bool)} {T : Nat → Option Ty} (hT : ∀ t ty, T t = some ty → chkTy P t ty = true) (hrs : fn.results.toList.mapM (trRes T) = some rs)
  {c' : Ctx} (hc : Ext { P := P, G := G, w0 := w, S0 := S, N := N, X := X, pin := pin, mpin := mpin, kx := some (w, S) } c') {st : St} {tmps : Array Value} {w' : World} {S' : Safe} {ρ' : Rho} (hs : Sim c' st tmps w' S' ρ') (hret : retB st r m1 t1 rs) : LeavesInM Fence.wide 0 P fn tmps (GivesB P G w S X pin mpin r m1 t1) c'.ds .returning w' := by
 obtain ⟨ob', Ds, rfl, h1, h2, h3, h4⟩ := hc
 simp only [List.append_nil]
 refine leaves_marks (c := { P := P, G := G, w0 := w, S0 := S, N := N, X := X, pin := pin, mpin := mpin, kx := some (w, S), ds := (Ds.map markOf) }) ?_ Ds (ob := ob') h1 h2 (fun D hD => h4 _ (h2 D hD)) (by simpa using hs)
 intro c2 w2 e1 e2 e3 e4 e5 e6 e7 e8 hs
 simp only at e1 e2 e3 e4 e5 e6 e7 e8
 obtain ⟨hret, hent⟩ := hret
 have hl : ∃ l, resCVs0 st rs = some l ∧ ((∃ y, rs = [y] ∧ l = [r]) ∨ (rs.length ≠ 1 ∧ r = .tup l)) := by
  split at hret
  ·rename_i y; exact ⟨[r], resCVs0_one hret, .inl ⟨y, rfl, rfl⟩⟩
  ·rename_i hne
   split at hret
   ·rename_i l hl
    refine ⟨l, hl, .inr ⟨fun h1 => ?_, hret⟩⟩
    obtain ⟨y, hy⟩ := List.length_eq_one_iff.1 h1
    exact hne y hy
   ·exact hret.elim
 obtain ⟨l, hl, hcase⟩ := hl
 obtain ⟨vs, hrun, hrep⟩ := results_sound0 hs (e1 ▸ hT) hrs hl
 rw [e1] at hrun
 have hvl := RepCL.length' hrep
 have hll := resCVs0_len hl
 have hrun' : (results fn tmps).run P w2 = .ok (if h : vs.toArray.size = 1 then vs.toArray[0] else .tuple vs.toArray) w2 := by
  rw [results_eq, Array.mapM_eq_mapM_toList]
  have hrunP : (fn.results.toList.mapM (rvRun tmps)).run P w2 = .ok vs w2 := hrun
  simp only [Sem.run_bind, Sem.run_map, hrunP]
  simp
 obtain ⟨ρ1, hs1⟩ := hent.sound hs
 have hs2 := hs1.toB
 rw [e1, e2, e3, e4, e5, e6, e7, e8] at hs2
 refine ⟨_, hrun', _, _, ρ1, rfl, ?_, hs2⟩
 rcases hcase with ⟨y, hy, hlr⟩ | ⟨hne, hr'⟩
 ·subst hlr
  obtain ⟨v, r', q1, q2, q3⟩ := hrep
  simp only [RepCL] at q3
  subst q3
  subst q1
  simpa using q2
 ·rw [dif_neg (by simp; omega), hr']
  exact ⟨_, rfl, by simpa using hrep⟩
theorem initA_get : ∀ {args : List AV} {vs : List Value} {k : Nat}, RepAs w S ρ args vs → ∀ j, RepA w S ρ (getS (initA k args) j) (if j < k then undef else vs.getD (j - k) undef) ∨ getS (initA k args) j = .undef
 | [], vs, k, h, j => .inr rfl
 | x :: xs, _, k, ⟨v, r, h, h1, h2⟩, j => by
  subst h
  simp only [initA, getS]
  by_cases hj : k = j
  ·subst hj
   rw [if_pos rfl]
   left
   simpa using h1
  ·rw [if_neg hj]
   rcases initA_get (k := k + 1) h2 j with h3 | h3
   ·by_cases hjk : j < k
    ·right
     have : ∀ (args : List AV) (k j : Nat), j < k → getS (initA k args) j = .undef := by
      intro args
      induction args with
      | nil => intro k j _; rfl
      | cons a as ih => intro k j hjk; simp only [initA, getS]; rw [if_neg (by omega)]; exact ih (k + 1) j (by omega)
     exact this xs (k + 1) j (by omega)
    ·left
     rw [if_neg (by omega)] at h3
     rw [if_neg hjk]
     have e : j - k = (j - (k + 1)) + 1 := by omega
     rw [e]
     simpa using h3
   ·exact .inr h3
theorem init_simB {P : Program} {G : Nat → Option (List D)} {w : World} {S : Safe} {fn : Func} {as : List AV} {cargs : Array Value} {X : List Nat} {pin mpin : List (Nat × Nat)} {m0 : Mem} {t0 : List (Nat × Bool)} {ρ : Rho} (hn : as.length ≤ fn.ntmps) (hN : fn.ntmps ≤ 1000)
  (h : Sim (ctxB P G w S X pin mpin none) ⟨[], m0, t0⟩ #[] w S ρ) (hp : ∀ p ∈ pin, 1000 ≤ p.1) (hm : ∀ p ∈ mpin, 1000 ≤ p.1) (hargs : RepAs w S ρ as cargs.toList) :
  Sim { P := P, G := G, w0 := w, S0 := S, N := fn.ntmps, X := X, pin := pin, mpin := mpin, kx := some (w, S) } ⟨initA 0 as, m0, t0⟩ (cargs ++ Array.replicate (fn.ntmps - cargs.size) undef) w S ρ := by
 have hlen := RepAs.length hargs
 simp only [Array.length_toList] at hlen
 refine { size := by simp; omega, slots := fun k => ?_, mem := h.mem, inj := h.inj, boxNew := h.boxNew, mps := h.mps, tok := h.tok, tokNew := h.tokNew, below := h.below, old := h.old, new := h.new, live := h.live, glob := h.glob, ex := h.ex,
          fx := fun k hk => (by cases hk), obs := fun p hp => (by cases hp), keeps := fun p hp => (by cases hp; exact Keeps.refl _ _), pins := ⟨fun p hpp => ⟨Nat.le_trans hN (hp p hpp), (h.pins.1 p hpp).2⟩, fun p hpp => ⟨Nat.le_trans hN (hm p hpp), (h.pins.2 p hpp).2⟩⟩ }
 rcases initA_get (ρ := ρ) (k := 0) hargs k with h1 | h1
 ·rw [if_neg (by omega)] at h1
  have : (cargs ++ Array.replicate (fn.ntmps - cargs.size) undef).getD k undef = cargs.toList.getD (k - 0) undef := by
   simp only [Array.getD_eq_getD_getElem?, Nat.sub_zero, List.getD_eq_getElem?_getD, Array.getElem?_toList]
   by_cases hk : k < cargs.size
   ·rw [Array.getElem?_append_left hk]
   ·have hnone : cargs[k]? = none := Array.getElem?_eq_none (by omega)
    rw [Array.getElem?_append_right (by omega), hnone]
    by_cases hk2 : k - cargs.size < fn.ntmps - cargs.size
    ·simp [hk2]
    ·simp [hk2]
  rw [this]; exact h1
 ·rw [h1]; trivial
theorem ev_of_bodyB {P : Program} {G : Nat → Option (List D)} {f : FuncId} {fn : Func} {fa : FnA} {as : List AV} {m0 : Mem} {t0 : List (Nat × Bool)} {r : CV} {m1 : Mem} {t1 : List (Nat × Bool)} (hf : P.funcs[f]? = some fn) (htr : trFn T fn = some fa)
  (hC : ∀ f args r, E.C f args r → Ev P G f args r) (hIt : ∀ f caps xs, E.It f caps xs → ItOk P G f caps xs) (hG : E.G = G) (hT : ∀ t ty, T t = some ty → chkTy P t ty = true) (hm : P.follows .mixedOrders = true)
  (h : as.length ≤ fa.n ∧ fa.n ≤ 1000 ∧ r.isOwn = false ∧ awp E fa.ac (retKB fa.rs r m1 t1) ⟨initA 0 as, m0, t0⟩) : EvB P G f as m0 t0 r m1 t1 := by
 simp only [trFn] at htr
 split at htr
 ·cases htr
 ·rename_i hname
  simp only [Option.bind_eq_bind, Option.pure_def, Option.bind_eq_some_iff, Option.some.injEq] at htr
  obtain ⟨cd, hcd, ac, hac, rs, hrs, rfl⟩ := htr
  obtain ⟨hn, hN, _, hawp⟩ := h
  simp only at hn hN hawp
  refine ⟨⟨fn, hf, by simpa using hname, by simp [hcd]⟩, ?_⟩
  intro w S cargs X pin mpin ρ hsim hp hmp _ _ hargs
  have hs0 := init_simB (fn := fn) hn hN hsim hp hmp hargs
  refine callsIn_wide.1 (callsIn_of_wp_marks (n := 0) (R := GivesB P G w S X pin mpin r m1 t1) hf hcd trivial ?_)
  refine code_sound hG hC hIt hT hm cd ac hac none (fun h => by cases h) 0 (c := { P := P, G := G, w0 := w, S0 := S, N := fn.ntmps, X := X, pin := pin, mpin := mpin, kx := some (w, S) }) rfl rfl rfl (fun _ _ => rfl) ?_ hs0 hawp
  intro c' hc' _ x st tmps w' S' ρ' hs hr
  cases x with
  | normal => exact body_endB hT hrs hc' hs hr
  | exit i => exact hr.elim
  | ret => exact body_endB hT hrs hc' hs hr
theorem ev_of_body {P : Program} {G : Nat → Option (List D)} {f : FuncId} {fn : Func} {fa : FnA} {args : List CV} {r : CV} (hf : P.funcs[f]? = some fn) (htr : trFn T fn = some fa)
  (hC : ∀ f args r, E.C f args r → Ev P G f args r) (hIt : ∀ f caps xs, E.It f caps xs → ItOk P G f caps xs) (hG : E.G = G) (hT : ∀ t ty, T t = some ty → chkTy P t ty = true) (hm : P.follows .mixedOrders = true) (h : Body E fa args r) : Ev P G f args r := by
 cases r with
 | own a sz es => exact ev_of_bodyO hf htr hC hIt hG hT hm h
 | one x => exact ev_of_bodyD hf htr hC hIt hG hT hm h
 | agg x => exact ev_of_bodyD hf htr hC hIt hG hT hm h
 | tup x => exact ev_of_bodyD hf htr hC hIt hG hT hm h
 | bx => exact ev_of_bodyB hf htr hC hIt hG hT hm h
end Go.Abs
end
section
namespace Go.Abs
open Go.RowKit
variable {c : Ctx} {st : St} {tmps : Array Value} {w : World} {S : Safe} {ρ : Rho} {T : Nat → Option Ty}
def ext (G : Nat → Option (List D)) (b : Nat) (ds : List D) : Nat → Option (List D) := fun g => if g = b then some ds else G g
def Gfree (G : Nat → Option (List D)) (b : Nat) : Prop := ∀ cs, G b = some cs → cs = []
def Rho.drop (ρ : Rho) (s : Nat) : Rho := { ρ with box := fun s' => if s' = s then none else ρ.box s' }
theorem Pins.drop {c : Ctx} {ρ : Rho} (h : Pins c ρ) (s : Nat) : Pins c (ρ.drop s) := h.sub (fun s' b e => by
 simp only [Rho.drop] at e
 split at e
 ·cases e
 ·exact .inr e) (fun _ _ e => .inr e)
def baseC (P : Program) (w0 : World) (S0 : Safe) (N : Nat) (G : Nat → Option (List D)) : Ctx := { P := P, G := G, w0 := w0, S0 := S0, N := N }
end Go.Abs
end
section
namespace Go.Abs
open Go.RowKit
variable {c : Ctx} {st : St} {tmps : Array Value} {w : World} {S : Safe} {ρ : Rho} {T : Nat → Option Ty}
def Gle (G G' : Nat → Option (List D)) : Prop := ∀ g cs, G g = some cs → cs = [] ∨ G' g = some cs
theorem Gle.refl (G : Nat → Option (List D)) : Gle G G := fun _ _ h => .inr h
theorem Gle.trans {G G' G'' : Nat → Option (List D)} (h : Gle G G') (h' : Gle G' G'') : Gle G G'' := fun g cs hg => by
 rcases h g cs hg with h1 | h1
 ·exact .inl h1
 ·exact h' g cs h1
theorem Gle.ext {G : Nat → Option (List D)} {b : Nat} (hb : Gfree G b) (ds : List D) : Gle G (ext G b ds) := fun g cs hg => by
 by_cases h : g = b
 ·subst h; exact .inl (hb cs hg)
 ·exact .inr (by simp [Go.Abs.ext, h, hg])
theorem GlobOk.mono {P : Program} {G G' : Nat → Option (List D)} (hG : Gle G G') {w : World} {S : Safe} (hg : GlobOk P G' w S) : GlobOk P G w S :=
 ⟨fun g cs hgc => by
  rcases hG g cs hgc with h1 | h1
  ·subst h1; trivial
  ·exact hg.1 g cs h1, hg.2.1, fun g cs hlt hgc hne => by
  rcases hG g cs hgc with h1 | h1
  ·exact absurd h1 hne
  ·exact hg.2.2 g cs hlt h1 hne⟩
theorem Ev.mono {P : Program} {G G' : Nat → Option (List D)} (hG : Gle G G') {f : FuncId} {args : List CV} {r : CV} (h : Ev P G f args r) : Ev P G' f args r := by
 cases r with
 | own a sz es => exact ⟨h.1, fun w S cargs X hl hg ha hx => h.2 w S cargs X hl (hg.mono hG) ha hx⟩
 | one x => exact ⟨h.1, fun w S cargs hl hg ha => h.2 w S cargs hl (hg.mono hG) ha⟩
 | agg x => exact ⟨h.1, fun w S cargs hl hg ha => h.2 w S cargs hl (hg.mono hG) ha⟩
 | tup x => exact ⟨h.1, fun w S cargs hl hg ha => h.2 w S cargs hl (hg.mono hG) ha⟩
 | bx as m0 t0 r m1 t1 =>
  refine ⟨h.1, fun w S cargs X pin mpin ρ hs a b c d e => ?_⟩
  have hg : GlobOk P G w S := GlobOk.mono hG ⟨hs.glob, hs.ex⟩
  have hs' : Sim (ctxB P G w S X pin mpin none) ⟨[], m0, t0⟩ #[] w S ρ :=
   { size := hs.size, slots := hs.slots, mem := hs.mem, inj := hs.inj, boxNew := hs.boxNew, mps := hs.mps, tok := hs.tok, tokNew := hs.tokNew, below := hs.below, old := hs.old, new := hs.new, live := hs.live, glob := hg.1, ex := hg.2, fx := hs.fx, obs := hs.obs, keeps := hs.keeps, pins := hs.pins }
  refine (h.2 w S cargs X pin mpin ρ hs' a b c d e).mono ?_
  rintro e w' ⟨v, S', ρ', h1, h2, h3⟩
  exact ⟨v, S', ρ', h1, h2,
   { size := h3.size, slots := h3.slots, mem := h3.mem, inj := h3.inj, boxNew := h3.boxNew, mps := h3.mps, tok := h3.tok, tokNew := h3.tokNew, below := h3.below, old := h3.old, new := h3.new, live := h3.live, glob := fun g cs hg => RepCs.keep (h3.keeps (w, S) rfl) g 0 cs (hs.glob g cs hg), ex := hs.ex, fx := h3.fx, obs := h3.obs, keeps := h3.keeps, pins := h3.pins }⟩
end Go.Abs
end
section
namespace Go.Abs
open Go.RowKit
variable {c : Ctx} {st : St} {tmps : Array Value} {w : World} {S : Safe} {ρ : Rho} {E : AEnv} {T : Nat → Option Ty} {P : Program} {G : Nat → Option (List D)} {N : Nat}
theorem tr_seq {cd : Code} {a b : AC} (h : tr T N cd = some (.seq a b)) : ∃ x y, cd = .seq x y ∧ tr T N x = some a ∧ tr T N y = some b := by
 cases cd <;> simp only [tr, Option.bind_eq_bind, Option.pure_def, reduceCtorEq, Option.bind_eq_some_iff, Option.some.injEq] at h
 case seq x y => obtain ⟨a1, e1, a2, e2, h⟩ := h; cases h; exact ⟨x, y, rfl, e1, e2⟩
 case region =>
  exfalso
  obtain ⟨l, _, h⟩ := h
  repeat' split at h
  all_goals first
   | (rcases reg3_some h with ⟨_, _, _, _, h', _⟩ | ⟨h', _⟩ <;> cases h')
   | cases h
 all_goals (exfalso; revert h; (try (repeat' split)) <;> intro h <;> simp at h)
theorem tr_cond {cd : Code} {g : X} {a b : AC} (h : tr T N cd = some (.cond g a b)) : ∃ x y z, cd = .cond x y z ∧ trX x = some g ∧ tr T N y = some a ∧ tr T N z = some b := by
 cases cd <;> simp only [tr, Option.bind_eq_bind, Option.pure_def, reduceCtorEq, Option.bind_eq_some_iff, Option.some.injEq] at h
 case cond x y z => obtain ⟨x', e0, a1, e1, a2, e2, h⟩ := h; cases h; exact ⟨x, y, z, rfl, e0, e1, e2⟩
 case region =>
  exfalso
  obtain ⟨l, _, h⟩ := h
  repeat' split at h
  all_goals first
   | (rcases reg3_some h with ⟨_, _, _, _, h', _⟩ | ⟨h', _⟩ <;> cases h')
   | cases h
 all_goals (exfalso; revert h; (try (repeat' split)) <;> intro h <;> simp at h)
theorem tr_block {cd : Code} {i : Nat} {a : AC} (h : tr T N cd = some (.block i a)) : ∃ x, cd = .block i x ∧ tr T N x = some a := by
 cases cd <;> simp only [tr, Option.bind_eq_bind, Option.pure_def, reduceCtorEq, Option.bind_eq_some_iff, Option.some.injEq] at h
 case block j x => obtain ⟨a1, e1, h⟩ := h; cases h; exact ⟨x, rfl, e1⟩
 case region =>
  exfalso
  obtain ⟨l, _, h⟩ := h
  repeat' split at h
  all_goals first
   | (rcases reg3_some h with ⟨_, _, _, _, h', _⟩ | ⟨h', _⟩ <;> cases h')
   | cases h
 all_goals (exfalso; revert h; (try (repeat' split)) <;> intro h <;> simp at h)
theorem tr_loop {cd : Code} {a : AC} (h : tr T N cd = some (.loop a)) : ∃ x, cd = .loop x ∧ tr T N x = some a := by
 cases cd <;> simp only [tr, Option.bind_eq_bind, Option.pure_def, reduceCtorEq, Option.bind_eq_some_iff, Option.some.injEq] at h
 case loop x => obtain ⟨a1, e1, h⟩ := h; cases h; exact ⟨x, rfl, e1⟩
 case region =>
  exfalso
  obtain ⟨l, _, h⟩ := h
  repeat' split at h
  all_goals first
   | (rcases reg3_some h with ⟨_, _, _, _, h', _⟩ | ⟨h', _⟩ <;> cases h')
   | cases h
 all_goals (exfalso; revert h; (try (repeat' split)) <;> intro h <;> simp at h)
theorem tr_ret {cd : Code} (h : tr T N cd = some .ret) : cd = .ret := by
 cases cd <;> simp only [tr, Option.bind_eq_bind, Option.pure_def, reduceCtorEq, Option.bind_eq_some_iff, Option.some.injEq] at h
 case region =>
  exfalso
  obtain ⟨l, _, h⟩ := h
  repeat' split at h
  all_goals first
   | (rcases reg3_some h with ⟨_, _, _, _, h', _⟩ | ⟨h', _⟩ <;> cases h')
   | cases h
 all_goals first | rfl | (exfalso; revert h; (try (repeat' split)) <;> intro h <;> simp at h)
theorem tr_skip {cd : Code} (h : tr T N cd = some .skip) : cd = .skip := by
 cases cd <;> simp only [tr, Option.bind_eq_bind, Option.pure_def, reduceCtorEq, Option.bind_eq_some_iff, Option.some.injEq] at h
 case region =>
  exfalso
  obtain ⟨l, _, h⟩ := h
  repeat' split at h
  all_goals first
   | (rcases reg3_some h with ⟨_, _, _, _, h', _⟩ | ⟨h', _⟩ <;> cases h')
   | cases h
 all_goals first | rfl | (exfalso; revert h; (try (repeat' split)) <;> intro h <;> simp at h)
theorem tr_exit {cd : Code} {i : Nat} (h : tr T N cd = some (.exit i)) : cd = .exit i := by
 cases cd <;> simp only [tr, Option.bind_eq_bind, Option.pure_def, reduceCtorEq, Option.bind_eq_some_iff, Option.some.injEq] at h
 case exit j => cases h; rfl
 case region =>
  exfalso
  obtain ⟨l, _, h⟩ := h
  repeat' split at h
  all_goals first
   | (rcases reg3_some h with ⟨_, _, _, _, h', _⟩ | ⟨h', _⟩ <;> cases h')
   | cases h
 all_goals (exfalso; revert h; (try (repeat' split)) <;> intro h <;> simp at h)
theorem tr_reg {cd : Code} {l : List (Option (Nat × Bool) × I)} (h : tr T N cd = some (.reg l)) : ∃ id ops, cd = .region id ops false ∧ trOps T ops.toList = some l ∧ okDst N ops.toList = true := by
 cases cd <;> simp only [tr, Option.bind_eq_bind, Option.pure_def, reduceCtorEq, Option.bind_eq_some_iff, Option.some.injEq] at h
 case region id ops draw =>
  obtain ⟨l', hl, h⟩ := h
  split at h
  ·rename_i hok
   split at h
   ·split at h
    ·cases h
    ·rcases reg3_some h with ⟨_, _, _, _, h', _⟩ | ⟨h', _⟩ <;> cases h'
   ·rename_i hd
    cases h
    have : draw = false := by simpa using hd
    subst this
    exact ⟨id, ops, rfl, hl, hok⟩
  ·cases h
 all_goals (exfalso; revert h; (try (repeat' split)) <;> intro h <;> simp at h)
theorem okDst_D {ops : List Oper} (h : okDst N ops = true) {o : Oper} (ho : o ∈ ops) {d : Nat} (hd : o.dst = some d) : d < N := by
 simp only [okDst, List.all_eq_true] at h
 have := h o ho
 simpa [hd] using this
theorem Sim.grows (h : Sim c st tmps w S ρ) (hX : c.X = [] := by rfl) : Grows c.w0 c.S0 w S := ⟨h.below.below hX, h.old, fun b o hs => (h.new b o hs).imp id (Ctx.own_nil hX), h.live⟩
theorem Grows.keeps {w w' : World} {S S' : Safe} (h : Grows w S w' S') (hl : Live w S) : Keeps w S w' S' := fun b o hs => by
 obtain ⟨v, hv⟩ := hl b o hs
 exact ⟨h.2.1 b o hs, h.1.cell (p := ⟨b, o, none⟩) (cell_lt hv)⟩
theorem Sim.purify (h : Sim c st tmps w S ρ) (sl : List (Nat × D)) (hp : ∀ p ∈ sl, AV.toD st.mem 4 (getS st.slots p.1) = some p.2) (hX : c.X = [] := by rfl) :
  ∃ S', Grows c.w0 c.S0 w S' ∧ Keeps w S w S' ∧ (∀ a v, RepA w S ρ a v → RepA w S' ρ a v) ∧ ∀ p ∈ sl, Rep w S' p.2 (tmps.getD p.1 undef) := by
 obtain ⟨S', e1, e2, e3, e4, e5⟩ := h.close
 refine ⟨S', ⟨h.below.below hX, fun b o hs => e1 b o (h.old b o hs), fun b o hs => ?_, e3⟩, fun b o hs => ⟨e1 b o hs, rfl⟩, e4, fun p hpp => toD_rep e5 4 _ _ _ (e4 _ _ (h.slots p.1)) (hp p hpp)⟩
 rcases e2 b o hs with h1 | h1
 ·exact (h.new b o h1).imp id (Ctx.own_nil hX)
 ·exact .inr (Ctx.own_nil hX h1)
def pureSt (sl : List (Nat × D)) : St := ⟨sl.map fun p => (p.1, .d p.2), [], []⟩
theorem getS_pure (sl : List (Nat × D)) (k : Nat) : getS (pureSt sl).slots k = .undef ∨ ∃ p ∈ sl, p.1 = k ∧ getS (pureSt sl).slots k = .d p.2 := by
 induction sl with
 | nil => exact .inl rfl
 | cons p sl ih =>
  simp only [pureSt, List.map_cons, getS]
  by_cases hk : p.1 = k
  ·right; exact ⟨p, by simp, hk, by rw [if_pos hk]⟩
  ·rw [if_neg hk]
   rcases ih with h | ⟨q, hq, e1, e2⟩
   ·exact .inl h
   ·exact .inr ⟨q, by simp [hq], e1, e2⟩
theorem Sim.fresh (hsz : tmps.size = N) (hl : Live w S) (hg : GlobOk P G w S) (sl : List (Nat × D)) (hr : ∀ p ∈ sl, Rep w S p.2 (tmps.getD p.1 undef)) : Sim (baseC P w S N G) (pureSt sl) tmps w S ⟨fun _ => none, fun _ => none, fun _ => none⟩ := by
 refine { size := hsz, slots := fun k => ?_, mem := fun s cs hs => (by simp [pureSt, getM] at hs), inj := fun s s' b hs => (by cases hs), boxNew := fun _ _ => rfl, mps := { at' := fun s k e kvs hs => (by simp [pureSt, getM] at hs), inj := fun s s' b hs => (by cases hs), new := fun _ _ => rfl, lt := fun s b hs => (by cases hs), apart := fun s b hs => (by cases hs) }, tok := fun t ht => (by simp [pureSt, getT] at ht), tokNew := fun _ _ => rfl,
          below := BelowO.refl _, old := fun _ _ hs => hs, new := fun _ _ hs => .inl hs, live := hl, glob := hg.1, ex := hg.2, fx := fun k hk => (by cases hk), obs := fun p hp => (by cases hp), keeps := fun p hp => (by cases hp), pins := Pins.nil rfl rfl }
 rcases getS_pure sl k with h | ⟨p, hp, rfl, h⟩
 ·rw [h]; trivial
 ·rw [h]; exact hr p hp
structure YCtx (P : Program) (G : Nat → Option (List D)) (l : Nat) (xs : List (List CV)) (J : List (List CV) → World → Safe → Prop) (Jx : World → Safe → Prop) : Prop where
 grow : ∀ pre W S1 W' S2, J pre W S1 → Grows W S1 W' S2 → J pre W' S2
 growx : ∀ W S1 W' S2, Jx W S1 → Grows W S1 W' S2 → Jx W' S2
 live : ∀ pre W S1, J pre W S1 → Live W S1
 livex : ∀ W S1, Jx W S1 → Live W S1 ∧ P.globals.size ≤ W.heap.size
 glob : ∀ pre W S1, J pre W S1 → GlobOk P G W S1
 yield : ∀ pre x rest W S1 vs, xs = pre ++ x :: rest → J pre W S1 → RepCL W S1 x vs → YieldAt Fence.wide 0 P l vs.toArray W fun e W' =>
   (e = .returned (.bool true) ∧ ∃ S2, J (pre ++ [x]) W' S2 ∧ Keeps W S1 W' S2) ∨ (e = .returned (.bool false) ∧ ∃ S2, Jx W' S2)
variable {l : Nat} {xs : List (List CV)} {J : List (List CV) → World → Safe → Prop} {Jx : World → Safe → Prop}
def EvY (P : Program) (xs : List (List CV)) (J : List (List CV) → World → Safe → Prop) (Jx : World → Safe → Prop) (f : FuncId) (args : List CV) (ys : List (List CV)) : Prop :=
 Enters P f ∧ ∀ (a b : List (List CV)) (W : World) (S : Safe) (cargs : Array Value), xs = a ++ ys ++ b → J a W S → RepCL W S args cargs.toList →
  Calls P f cargs W fun e W' => (e = .returned (.bool true) ∧ ∃ S2, J (a ++ ys) W' S2 ∧ Keeps W S W' S2) ∨ (e = .returned (.bool false) ∧ ∃ S2, Jx W' S2)
theorem opd_op {o : Oper} {d : Option Nat} {f' : X} {args' : List X} (h : trOp T o.dst o.op = some (.call d f' args')) : ∃ f args argTypes, o.dst = d ∧ o.op = .call { callee := .value f, args := args, argTypes := argTypes } ∧ trX f = some f' ∧ trXs args.toList = some args' := by
 have hd := trOp_dst h
 simp only [DstIs] at hd
 generalize o.op = op at h
 cases op <;> simp only [trOp] at h
 case call cl =>
  obtain ⟨callee, args, argTypes⟩ := cl
  cases callee <;> simp only [trCall, Option.bind_eq_bind, Option.pure_def, reduceCtorEq] at h
  case value f =>
   split at h
   ·obtain ⟨_, _, h⟩ := opd_some h
    obtain ⟨_, _, h⟩ := opd_some h
    cases h
   obtain ⟨f1, hf, h⟩ := opd_some h
   obtain ⟨xs1, hxs, h⟩ := opd_some h
   cases h
   exact ⟨f, args, argTypes, hd, rfl, hf, hxs⟩
  case builtin b =>
   exfalso
   by_cases hbc : b = .clear
   ·subst hbc
    simp only at h
    unfold trClear at h
    repeat' (first | (cases h; done) | (obtain ⟨_, _, h⟩ := opd_some h) | split at h)
   replace h : (o.dst >>= fun d => trBuiltin T d b args.toList argTypes.toList) = some (.call d f' args') := by cases b <;> first | exact h | exact absurd rfl hbc
   obtain ⟨_, _, h⟩ := opd_some h
   unfold trBuiltin at h
   repeat' (first | (cases h; done) | (obtain ⟨_, _, h⟩ := opd_some h) | split at h)
 case binOp op t x y t' =>
  exfalso
  unfold trBin at h
  repeat' (first | (cases h; done) | (obtain ⟨_, _, h⟩ := opd_some h) | split at h)
 case unOp u t x =>
  exfalso
  unfold trUn at h
  repeat' (first | (cases h; done) | (obtain ⟨_, _, h⟩ := opd_some h) | split at h)
 case makeMap t rs =>
  exfalso
  cases rs with
  | some _ => cases h
  | none => repeat' (first | (cases h; done) | (obtain ⟨_, _, h⟩ := opd_some h) | split at h)
 case pick x y z =>
  exfalso
  obtain ⟨_, _, h⟩ := opd_some h
  unfold trPick at h
  repeat' (first | (cases h; done) | (obtain ⟨_, _, h⟩ := opd_some h) | split at h)
 case slice t x lo hi mx =>
  exfalso
  cases mx with
  | some _ => cases h
  | none =>
  obtain ⟨_, _, h⟩ := opd_some h
  cases lo <;> cases hi
  all_goals
   repeat' (first | (cases h; done) | (obtain ⟨_, _, h⟩ := opd_some h) | split at h)
 all_goals
  exfalso
  repeat' (first | (cases h; done) | (obtain ⟨_, _, _, _, e⟩ := trArr_some h; cases e; done) | (obtain ⟨_, _, h⟩ := opd_some h) | split at h)
end Go.Abs
end
section
namespace Go.Abs
open Go.RowKit
variable {c : Ctx} {st : St} {tmps : Array Value} {w : World} {S : Safe} {ρ : Rho} {E : AEnv} {T : Nat → Option Ty} {P : Program} {G : Nat → Option (List D)} {N : Nat}
variable {l : Nat} {xs : List (List CV)} {J : List (List CV) → World → Safe → Prop} {Jx : World → Safe → Prop}
theorem ops_pre (hG : E.G = c.G) (hC : ∀ f args r, E.C f args r → Ev c.P c.G f args r) (hT : ∀ t ty, T t = some ty → chkTy c.P t ty = true) {ops : Array Oper} {l : List (Option (Nat × Bool) × I)} (htr : trOps T ops.toList = some l)
  (hdst : ∀ o ∈ ops.toList, ∀ d, o.dst = some d → c.D d) {F : Fence} (hF : FW F) (m : Nat) (Q : Exit → Act → World → Prop) {K : St → Prop} (rest : List Nat) :
  ∀ (n k : Nat) {st : St} {tmps : Array Value} {w : World} {S : Safe} {ρ : Rho}, k + n ≤ ops.size → (∀ a w, Goes c K a w → wpOpsIn F m c.P ops Q rest a w) → Sim c st tmps w S ρ → aops E ((l.drop k).take n) K st → wpOpsIn F m c.P ops Q (List.range' k n ++ rest) ⟨tmps, c.ds⟩ w := by
 obtain ⟨hlen, hget⟩ := trOps_get htr
 simp only [Array.length_toList] at hlen
 intro n
 induction n with
 | zero =>
  intro k st tmps w S ρ hk hQ h hK
  simp only [List.take_zero, aops] at hK
  exact hQ _ _ ⟨rfl, _, _, _, h, hK⟩
 | succ n ih =>
  intro k st tmps w S ρ hk hQ h hK
  have hlt : k < ops.size := by omega
  obtain ⟨gi, i, hl, htg, hti⟩ := hget k ops[k] (by simp [hlt])
  have hdrop : l.drop k = (gi, i) :: l.drop (k + 1) := by
   have hkl : k < l.length := by omega
   rw [List.drop_eq_getElem_cons hkl]
   congr 1
   have := List.getElem?_eq_getElem hkl
   rw [this] at hl
   exact Option.some.inj hl
  rw [hdrop, List.take_succ_cons] at hK
  simp only [aops] at hK
  rw [List.range'_succ, List.cons_append, wpOpsIn_cons]
  refine wpOp_sound hG hC hT h (Array.getElem?_eq_getElem hlt) htg hti (hdst _ (by simp)) hK ?_ Q hF m
  rintro ⟨tmps', ds'⟩ w' ⟨hds, st', S', ρ', h', hK'⟩
  simp only at hds
  subst hds
  exact ih (k + 1) (by omega) hQ h' hK'
def quietE (G : Nat → Option (List D)) : AEnv := ⟨G, fun _ _ _ => False, fun _ _ _ => False⟩
theorem reg_step (hT : ∀ t ty, T t = some ty → chkTy P t ty = true) {W1 : World} {S1 : Safe} {cd : Code} {l : List (Option (Nat × Bool) × I)} (h : tr T N cd = some (.reg l)) (hs : Sim (baseC P W1 S1 N G) st tmps w S ρ) {K : St → Prop} (hK : aops (quietE G) l K st)
  {Q : Exit → Act → World → Prop} {m : Nat} (hQ : ∀ st' tmps' w' S' ρ', Sim (baseC P W1 S1 N G) st' tmps' w' S' ρ' → K st' → Q .normal ⟨tmps', []⟩ w') : cd.wpIn (FR none) m P Q ⟨tmps, []⟩ w := by
 obtain ⟨id, ops, rfl, hops, hok⟩ := tr_reg h
 refine wpIn_region ?_
 rw [List.range_eq_range']
 refine ops_sound (c := baseC P W1 S1 N G) (E := quietE G) rfl (fun _ _ _ h => h.elim) hT hops (fun o ho d hd => ⟨okDst_D hok ho hd, rfl⟩) (FR.fw none) m Q (K := K) ?_ ops.size 0 (by omega) hs hK
 rintro ⟨tm, ds⟩ w' ⟨hd, st', S', ρ', h', hk'⟩
 simp only at hd
 subst hd
 exact hQ _ _ _ _ _ h' hk'
theorem cond_step {W1 : World} {S1 : Safe} {x : Operand} {y z : Code} {g : X} (hx : trX x = some g) (hs : Sim (baseC P W1 S1 N G) st tmps w S ρ) {b : Bool} (hg : ev st g = .d (.bool b)) (hgd : gd st g = true) {Q : Exit → Act → World → Prop} {m : Nat}
  (ht : b = true → y.wpIn (FR none) m P Q ⟨tmps, []⟩ w) (hf : b = false → z.wpIn (FR none) m P Q ⟨tmps, []⟩ w) : (Code.cond x y z).wpIn (FR none) m P Q ⟨tmps, []⟩ w := by
 have hev := hs.ev (ds := []) hx hgd
 rw [hg] at hev
 simp only [RepA, Rep] at hev
 exact wpIn_cond_split hev ht hf
theorem wpOpIn_plain {ops : Array Oper} {k : Nat} {o : Oper} (ho : ops[k]? = some o) (hg : trGuard ops.toList o.guard = some none) {F : Fence} {m : Nat} {K : Act → World → Prop} {Q : Exit → Act → World → Prop} {a : Act} (h : o.wpIn F m P a w K Q) : wpOpIn F m P ops Q k K a w := by
 have hgn : o.guard = none := by
  cases hgu : o.guard with
  | none => rfl
  | some jw =>
   rw [hgu] at hg
   simp only [trGuard, Option.bind_eq_bind, Option.pure_def, Option.bind_eq_some_iff, Option.some.injEq] at hg
   obtain ⟨_, _, _, _, hg⟩ := hg
   cases hg
 unfold wpOpIn
 simp only [ho]
 rw [if_pos (by unfold Region.wanted; rw [hgn])]
 exact h
theorem round_any {l : Nat} {f : FuncId} {tm : Array Value} {as bd : Code} {R : Ending → World → Prop} {m : Nat} (h : RoundIn Fence.wide 0 P l f tm as bd w R) : RoundIn (FR none) m P l f tm as bd w R :=
 ⟨trivial, fun c cs _ => h.2 c cs (room_wide _)⟩
theorem yield_op (hY : YCtx P G l xs J Jx) {W1 : World} {S1 : Safe} {a b : List (List CV)} {x : List CV} (hxs : xs = a ++ x :: b) (hJ : J a W1 S1) (h : Sim (baseC P W1 S1 N G) st tmps w S ρ) {o : Oper} {d : Nat} {f' : X} {args' : List X} (htr : trOp T o.dst o.op = some (.call (some d) f' args')) (hd : d < N)
  (hf : ev st f' = .d (.yl l)) (hgf : gd st f' = true) (hga : gds st args' = true) (hx : toCVs [] 1 (evs st args') = some x) (sl : List (Nat × D)) (hsl : ∀ p ∈ sl, AV.toD st.mem 4 (getS st.slots p.1) = some p.2) {m : Nat} {K : Act → World → Prop} {Q : Exit → Act → World → Prop}
  (hT : ∀ W' S2 ρ', J (a ++ [x]) W' S2 → Keeps w S W' S2 → Sim (baseC P W' S2 N G) ((pureSt sl).put none d (.d (.bool true))) (tmps.setIfInBounds d (.bool true)) W' S2 ρ' → K ⟨tmps.setIfInBounds d (.bool true), []⟩ W')
  (hF : ∀ W' S2 ρ', Jx W' S2 → Sim (baseC P W' S2 N (fun _ => none)) ((pureSt []).put none d (.d (.bool false))) (tmps.setIfInBounds d (.bool false)) W' S2 ρ' → K ⟨tmps.setIfInBounds d (.bool false), []⟩ W') :
  o.wpIn (FR none) m P ⟨tmps, []⟩ w K Q := by
 obtain ⟨f, args, argTypes, hdst, hop, hfx, hax⟩ := opd_op htr
 have e1 := h.ev (ds := []) hfx hgf
 rw [hf] at e1
 simp only [RepA, Rep] at e1
 obtain ⟨S', hg, hk, hup, hreps⟩ := h.purify sl hsl
 have hJw := hY.grow _ _ _ _ _ hJ hg
 have e2 := toCVs_rep (through_nil (w := w) (S := S') (ρ := ρ)) 1 (RepAs.keep hk ρ.le_refl _ _ (h.evs (ds := []) hax hga)) hx
 obtain ⟨fn, tm, as, bd, hrun, hR⟩ := hY.yield a x b w S' _ hxs hJw e2
 have hrun' : (execOp (Act.eval ⟨tmps, []⟩) o).run P w = .ok (.round l fn tm as bd) w := by
  unfold execOp
  simp only [hop]
  have : (args.toList.map (Act.eval ⟨tmps, []⟩)).toArray = args.map (Act.eval ⟨tmps, []⟩) := by rw [← Array.toList_map]
  rw [this] at hrun
  simp [resolve, Deferred.ofValue, e1, invoke, hrun]
 refine ⟨fun _ _ => trivial, ?_⟩
 rw [Oper.semAt_eq _ _ _ (fun c hc => by rw [hop] at hc; cases hc), hrun', Oper.uponIn_round]
 refine ⟨(by intro hd; cases hd), (round_any hR).mono ?_⟩
 rintro e W' (⟨rfl, S2, hJ2, hk2⟩ | ⟨rfl, S2, hx2⟩)
 ·simp only [Act.put, hdst]
  have hs := Sim.fresh (P := P) (G := G) (N := N) h.size (hY.live _ _ _ hJ2) (hY.glob _ _ _ hJ2) sl (fun p hp => Rep.keep hk2 _ _ (hreps p hp))
  exact hT W' S2 _ hJ2 (hk.trans hk2) (hs.put (d := d) ⟨hd, rfl⟩ (a := .d (.bool true)) (v := .bool true) rfl none (fun b hb => by cases hb))
 ·simp only [Act.put, hdst]
  have hs := Sim.fresh (P := P) (G := fun _ => none) (N := N) h.size (hY.livex _ _ hx2).1 ⟨fun g cs hg => (by cases hg), (hY.livex _ _ hx2).2, fun g cs _ hg => (by cases hg)⟩ [] (fun p hp => by cases hp)
  exact hF W' S2 _ hx2 (hs.put (d := d) ⟨hd, rfl⟩ (a := .d (.bool false)) (v := .bool false) rfl none (fun b hb => by cases hb))
theorem evy_op (hY : YCtx P G l xs J Jx) {W1 : World} {S1 : Safe} {a b ys : List (List CV)} (hxs : xs = a ++ ys ++ b) (hJ : J a W1 S1) (h : Sim (baseC P W1 S1 N G) st tmps w S ρ) {o : Oper} {d : Nat} {f' : X} {args' : List X} (htr : trOp T o.dst o.op = some (.call (some d) f' args')) (hd : d < N) {fid : FuncId} {cvs : List CV}
  (hf : ev st f' = .d (.clo fid [])) (hgf : gd st f' = true) (hga : gds st args' = true) (hx : toCVs [] 1 (evs st args') = some cvs) (hV : EvY P xs J Jx fid cvs ys) (sl : List (Nat × D)) (hsl : ∀ p ∈ sl, AV.toD st.mem 4 (getS st.slots p.1) = some p.2) {m : Nat} {K : Act → World → Prop} {Q : Exit → Act → World → Prop}
  (hT : ∀ W' S2 ρ', J (a ++ ys) W' S2 → Keeps w S W' S2 → Sim (baseC P W' S2 N G) ((pureSt sl).put none d (.d (.bool true))) (tmps.setIfInBounds d (.bool true)) W' S2 ρ' → K ⟨tmps.setIfInBounds d (.bool true), []⟩ W')
  (hF : ∀ W' S2 ρ', Jx W' S2 → Sim (baseC P W' S2 N (fun _ => none)) ((pureSt []).put none d (.d (.bool false))) (tmps.setIfInBounds d (.bool false)) W' S2 ρ' → K ⟨tmps.setIfInBounds d (.bool false), []⟩ W') :
  o.wpIn (FR none) m P ⟨tmps, []⟩ w K Q := by
 obtain ⟨f, args, argTypes, hdst, hop, hfx, hax⟩ := opd_op htr
 have e1 := h.ev (ds := []) hfx hgf
 rw [hf] at e1
 obtain ⟨cs, hv, hcaps⟩ := e1
 simp only [RepL] at hcaps
 have hcs : cs = #[] := by cases cs; simp_all
 subst hcs
 obtain ⟨S', hg, hk, hup, hreps⟩ := h.purify sl hsl
 have hJw := hY.grow _ _ _ _ _ hJ hg
 have e2 := toCVs_rep (through_nil (w := w) (S := S') (ρ := ρ)) 1 (RepAs.keep hk ρ.le_refl _ _ (h.evs (ds := []) hax hga)) hx
 obtain ⟨⟨fn, hfn, hname, hbody⟩, hcalls⟩ := hV
 have hrun' : (execOp (Act.eval ⟨tmps, []⟩) o).run P w = .ok (.enter fid (args.map (Act.eval ⟨tmps, []⟩))) w := by
  unfold execOp
  simp only [hop]
  have hname' : ¬ fn.name = "runtime.NumGoroutine" := by simpa using hname
  have hbody' : ¬ fn.body = none := by intro e; simp [e] at hbody
  simp [resolve, invoke, callFunc, Deferred.ofValue, hv, hfn, hname', hbody']
 refine ⟨fun _ _ => trivial, ?_⟩
 rw [Oper.semAt_eq _ _ _ (fun c hc => by rw [hop] at hc; cases hc), hrun', Oper.uponIn_enter]
 refine ⟨(by intro hd; cases hd), callsIn_fw (FR.fw none) ((hcalls a b w S' _ hxs hJw (by simpa using e2)).mono ?_)⟩
 rintro e W' (⟨rfl, S2, hJ2, hk2⟩ | ⟨rfl, S2, hx2⟩)
 ·simp only [Act.put, hdst]
  have hs := Sim.fresh (P := P) (G := G) (N := N) h.size (hY.live _ _ _ hJ2) (hY.glob _ _ _ hJ2) sl (fun p hp => Rep.keep hk2 _ _ (hreps p hp))
  exact hT W' S2 _ hJ2 (hk.trans hk2) (hs.put (d := d) ⟨hd, rfl⟩ (a := .d (.bool true)) (v := .bool true) rfl none (fun b hb => by cases hb))
 ·simp only [Act.put, hdst]
  have hs := Sim.fresh (P := P) (G := fun _ => none) (N := N) h.size (hY.livex _ _ hx2).1 ⟨fun g cs hg => (by cases hg), (hY.livex _ _ hx2).2, fun g cs _ hg => (by cases hg)⟩ [] (fun p hp => by cases hp)
  exact hF W' S2 _ hx2 (hs.put (d := d) ⟨hd, rfl⟩ (a := .d (.bool false)) (v := .bool false) rfl none (fun b hb => by cases hb))
theorem ret_bool (hT : ∀ t ty, T t = some ty → chkTy P t ty = true) {W1 : World} {S1 : Safe} {fn : Func} {k : Nat} (hrs : fn.results.toList.mapM (trRes T) = some [.t k]) (h : Sim (baseC P W1 S1 N G) st tmps w S ρ) (hm : st.mem = []) {b : Bool} (hk : getS st.slots k = .d (.bool b)) : (results fn tmps).run P w = .ok (.bool b) w := by
 obtain ⟨vs, hrun, hrep⟩ := results_sound (c := baseC P W1 S1 N G) h hT (fun _ _ h => h) (by rw [hm]; exact through_nil) hrs (l := [.one (.bool b)]) (by simp [resCVs, resCV, resAV, hk, AV.toCV, AV.toD])
 obtain ⟨v, r', q1, q2, q3⟩ := hrep
 simp only [RepCL] at q3
 subst q3
 subst q1
 simp only [RepC, Rep] at q2
 subst q2
 rw [results_eq, Array.mapM_eq_mapM_toList]
 have hrunP : (fn.results.toList.mapM (rvRun tmps)).run P w = .ok [.bool b] w := hrun
 simp only [Sem.run_bind, Sem.run_map, hrunP]
 simp
end Go.Abs
end
section
namespace Go.Abs
theorem awp_skip {E : AEnv} {Q : AX → St → Prop} {st : St} : awp E .skip Q st = Q .normal st := rfl
theorem awp_reg {E : AEnv} {l : List (Option (Nat × Bool) × I)} {Q : AX → St → Prop} {st : St} : awp E (.reg l) Q st = aops E l (Q .normal) st := rfl
theorem awp_regd2 {E : AEnv} {p r : List (Option (Nat × Bool) × I)} {a b : Option (Nat × Bool) × I} {Q : AX → St → Prop} {st : St} : awp E (.regd2 p a b r) Q st = aopsN E p (fun s => aopsN E (a :: b :: r) (Q .normal) s ∧ aopsN E (b :: a :: r) (Q .normal) s) st := rfl
theorem awp_regn {E : AEnv} {F : List Nat} {l : List (Option (Nat × Bool) × I)} {Q : AX → St → Prop} {st : St} : awp E (.regn F l) Q st = aopsNF F E l (Q .normal) st := rfl
theorem aopsNF_nil {F : List Nat} {E : AEnv} {K : St → Prop} {st : St} : aopsNF F E [] K st = K st := rfl
theorem aopsNF_cons {F : List Nat} {E : AEnv} {g : Option (Nat × Bool)} {o : I} {os : List (Option (Nat × Bool) × I)} {K : St → Prop} {st : St} : aopsNF F E ((g, o) :: os) K st = (chkF F st o ∧ aopN E g o st (aopsNF F E os K)) := rfl
theorem awp_regd {E : AEnv} {l : List (Option (Nat × Bool) × I)} {Q : AX → St → Prop} {st : St} : awp E (.regd l) Q st = aopsN E l (Q .normal) st := rfl
theorem awp_cond {E : AEnv} {c : X} {a b : AC} {Q : AX → St → Prop} {st : St} : awp E (.cond c a b) Q st = match ev st c with
  | .d (.bool x) => gd st c = true ∧ (if x = true then awp E a Q st else awp E b Q st)
  | _ => False := by
 simp only [awp]
 generalize ev st c = v
 cases v with
 | d x =>
  cases x with
  | bool x => cases x <;> simp
  | _ => rfl
 | _ => rfl
theorem awp_block {E : AEnv} {id : Nat} {c : AC} {Q : AX → St → Prop} {st : St} : awp E (.block id c) Q st = awp E c (blockK id Q) st := rfl
theorem awp_exit {E : AEnv} {id : Nat} {Q : AX → St → Prop} {st : St} : awp E (.exit id) Q st = Q (.exit id) st := rfl
theorem awp_ret {E : AEnv} {Q : AX → St → Prop} {st : St} : awp E .ret Q st = Q .ret st := rfl
theorem aops_nil {E : AEnv} {K : St → Prop} {st : St} : aops E [] K st = K st := rfl
theorem aops_cons {E : AEnv} {g : Option (Nat × Bool)} {o : I} {os : List (Option (Nat × Bool) × I)} {K : St → Prop} {st : St} : aops E ((g, o) :: os) K st = aop E g o st (aops E os K) := rfl
theorem aopsN_nil {E : AEnv} {K : St → Prop} {st : St} : aopsN E [] K st = K st := rfl
theorem aopsN_cons {E : AEnv} {g : Option (Nat × Bool)} {o : I} {os : List (Option (Nat × Bool) × I)} {K : St → Prop} {st : St} : aopsN E ((g, o) :: os) K st = aopN E g o st (aopsN E os K) := rfl
theorem seqK_normal {N : St → Prop} {Q : AX → St → Prop} {s : St} : seqK N Q .normal s = N s := rfl
theorem seqK_exit {N : St → Prop} {Q : AX → St → Prop} {s : St} {i : Nat} : seqK N Q (.exit i) s = Q (.exit i) s := rfl
theorem seqK_ret {N : St → Prop} {Q : AX → St → Prop} {s : St} : seqK N Q .ret s = Q .ret s := rfl
theorem blockK_normal {id : Nat} {Q : AX → St → Prop} {s : St} : blockK id Q .normal s = Q .normal s := rfl
theorem blockK_exit {id i : Nat} {Q : AX → St → Prop} {s : St} : blockK id Q (.exit i) s = if i = id then Q .normal s else Q (.exit i) s := rfl
theorem blockK_ret {id : Nat} {Q : AX → St → Prop} {s : St} : blockK id Q .ret s = Q .ret s := rfl
theorem retK_normal {rs : List R} {r : CV} {st : St} : retK rs r .normal st = retOk st r rs := rfl
theorem retK_ret {rs : List R} {r : CV} {st : St} : retK rs r .ret st = retOk st r rs := rfl
theorem cells1_map (xs : List D) : cells1 (xs.map AV.d) = true := by
 induction xs with
 | nil => rfl
 | cons x xs ih => exact ih
theorem toDs_map (m : Mem) (n : Nat) (xs : List D) : toDs m n (xs.map AV.d) = some xs := by
 induction xs with
 | nil => rfl
 | cons x xs ih => cases n <;> simp [toDs, AV.toD, ih]
theorem callK_one {g : Option Bool} {d : Nat} {K : St → Prop} {st : St} {as : List AV} {x : D} : callK g (some d) K st as (.one x) = K (st.put g d (.d x)) := rfl
theorem callK_agg {g : Option Bool} {d : Nat} {K : St → Prop} {st : St} {as : List AV} {x : List D} : callK g (some d) K st as (.agg x) = K (st.put g d (.agg (x.map .d))) := rfl
theorem callK_tup {g : Option Bool} {d : Nat} {K : St → Prop} {st : St} {as : List AV} {x : List CV} : callK g (some d) K st as (.tup x) = K (st.put g d (.tup (CV.toAV0s x))) := rfl
theorem callK_own {g : Option Bool} {d : Nat} {K : St → Prop} {st : St} {as : List AV} {a : Option Nat} {sz : Nat} {es : List (List D)} : callK g (some d) K st as (.own a sz es) = ((g = none ∧ getT st.tk d = none ∧ argOwn st.tk as sz a) ∧ K { (st.put none d (.own d sz es)) with tk := (d, true) :: tkUse (ownTok as a) st.tk }) := rfl
theorem callK_none1 {g : Option Bool} {K : St → Prop} {st : St} {as : List AV} {x : D} : callK g none K st as (.one x) = K st := rfl
theorem callK_none2 {g : Option Bool} {K : St → Prop} {st : St} {as : List AV} {x : List D} : callK g none K st as (.agg x) = K st := rfl
theorem callK_none3 {g : Option Bool} {K : St → Prop} {st : St} {as : List AV} {x : List CV} : callK g none K st as (.tup x) = K st := rfl
theorem retKO_normal {rs : List R} {sz : Nat} {es : List (List D)} {st : St} : retKO rs sz es .normal st = retOwn st sz es rs := rfl
theorem retKO_ret {rs : List R} {sz : Nat} {es : List (List D)} {st : St} : retKO rs sz es .ret st = retOwn st sz es rs := rfl
theorem call_by {E : AEnv} {f : FuncId} {args : List CV} {r : CV} {g : Option Bool} {d : Option Nat} {K : St → Prop} {st : St} {as : List AV} (h : E.C f args r) (hk : callK g d K st as r) : ∃ r, E.C f args r ∧ callK g d K st as r := ⟨r, h, hk⟩
theorem call_byM {E : AEnv} {f : FuncId} {args : List CV} {r : CV} {g : Option Bool} {d : Option Nat} {K : St → Prop} {st : St} {as : List AV} (hf : r.flat = true) (h : E.C f args r) (hk : callK g d K st as r) : ∃ r, (r.flat = true ∧ E.C f args r) ∧ callK g d K st as r := ⟨r, ⟨hf, h⟩, hk⟩
attribute [go_sem] callW mkC dsOf
theorem appG_none {a p : Prop} : appG none a p = p := rfl
theorem appG_on {a p : Prop} : appG (some true) a p = p := rfl
theorem appG_off {a p : Prop} : appG (some false) a p = a := rfl
theorem onB_none : onB none = true := rfl
theorem onB_some {b : Bool} : onB (some b) = b := by cases b <;> rfl
attribute [go_sem] appG_none appG_on appG_off onB_none onB_some
theorem mapM_nil' {α β : Type} (f : α → Option β) : [].mapM f = some [] := rfl
theorem mapM_cons' {α β : Type} (f : α → Option β) (a : α) (l : List α) : (a :: l).mapM f = match f a with | some b => (match l.mapM f with | some bs => some (b :: bs) | none => none) | none => none := by
 simp only [List.mapM_cons, Option.bind_eq_bind, Option.pure_def]
 cases f a with
 | none => rfl
 | some b => cases l.mapM f <;> rfl
attribute [go_sem] mapM_nil' mapM_cons'
theorem call_by_g {E : AEnv} {f : FuncId} {args : List CV} {r : CV} {b : Bool} {g : Option Bool} {d : Option Nat} {K : St → Prop} {st : St} {as : List AV} (h : E.C f args r) (hk : callK g d K st as r) : ∃ r, (b = true → b = true ∧ E.C f args r) ∧ callK g d K st as r := ⟨r, fun hb => ⟨hb, h⟩, hk⟩
attribute [go_sem] awp_regn aopsNF_nil aopsNF_cons chkF awp_skip awp_reg awp_regd awp_regd2 awp_cond awp_block awp_exit awp_ret callK_one callK_agg callK_tup callK_own callK_none1 callK_none2 callK_none3 retKO_normal retKO_ret ownTok tkUse argOwn retOwn initO
theorem awp_rng {E : AEnv} {g : X} {ps wl : List Nat} {a b : AC} {Q : AX → St → Prop} {st : St} : awp E (.rng g ps wl a b) Q st = match ev st g with
  | .d (.clo f caps) => gd st g = true ∧ ∃ xs, E.It f caps xs ∧ rngL (fun Q' => awp E a (seqK (awp E b Q') noK)) ps wl xs Q st
  | _ => False := rfl
theorem rngK_normal {wl : List Nat} {N : St → Prop} {Q : AX → St → Prop} {s : St} : rngK wl N Q .normal s = N (s.dropW wl) := rfl
theorem rngK_exit {wl : List Nat} {N : St → Prop} {Q : AX → St → Prop} {s : St} {i : Nat} : rngK wl N Q (.exit i) s = Q (.exit i) (s.dropW wl) := rfl
theorem rngK_ret {wl : List Nat} {N : St → Prop} {Q : AX → St → Prop} {s : St} : rngK wl N Q .ret s = Q .ret (s.dropW wl) := rfl
theorem rng_by {E : AEnv} {f : FuncId} {caps : List D} {xs : List (List CV)} {B : (AX → St → Prop) → St → Prop} {ps wl : List Nat} {Q : AX → St → Prop} {st : St} (h : E.It f caps xs) (Inv : List (List CV) → Prop) (Sx : List (List CV) → St) (h0 : Ent st (Sx [])) (hi : Inv [])
  (hr : ∀ pre x rest, xs = pre ++ x :: rest → Inv pre → x.length = ps.length ∧ B (rngK wl (fun s => Ent s (Sx (pre ++ [x])) ∧ Inv (pre ++ [x])) Q) { Sx pre with slots := setPs ps x (Sx pre).slots }) (hq : Inv xs → Q .normal (Sx xs)) :
  ∃ xs, E.It f caps xs ∧ rngL B ps wl xs Q st := ⟨xs, h, Inv, Sx, h0, hi, hr, hq⟩
attribute [go_sem] awp_rng rngK_normal rngK_exit rngK_ret setPs inN dropS St.dropW
theorem awp_seq {E : AEnv} {a b : AC} {Q : AX → St → Prop} {st : St} : awp E (.seq a b) Q st = awp E a (seqK (awp E b Q) Q) st := rfl
theorem likeD_str (a b : List UInt8) : likeD (.str a) (.str b) = true := rfl
theorem likeD_bool (a b : Bool) : likeD (.bool a) (.bool b) = true := rfl
theorem likeD_i64 (a b : Int) : likeD (.int .i64 a) (.int .i64 b) = true := rfl
theorem keyEq_str (a b : List UInt8) : keyEq (.str a) (.str b) = (a == b) := rfl
theorem keyEq_bool (a b : Bool) : keyEq (.bool a) (.bool b) = (a == b) := rfl
attribute [go_sem] eqDs likeDs keyEq_str keyEq_bool
attribute [go_sem] likeD_str likeD_bool likeD_i64 flatD plainD AV.isMp
attribute [go_sem] awp_seq guardOf onG getS getM getT ev ev0 gd AV.strip AV.grd gds evs evParts gdParts opv dstOf St.put AV.cells AV.elems rdMem asOne lenOf binA aopG aopW skipG skipK wrOf aop aopN aops_nil aops_cons aopsN_nil aopsN_cons
 seqK_normal seqK_exit seqK_ret blockK_normal blockK_exit blockK_ret retK_normal retK_ret cells1_map toDs_map List.length_map fillA AV.solid cells1 toElems toDs AV.toD AV.toCV toCVs tkKill CV.toAV0 CV.toAV0s initSlots retOk resCV resCVs resAV
 EntSlots EntMem EntV EntC EntCs AV.plain AV.plains tkOf mpOk getTM convs conv1
 List.map_cons List.map_nil List.drop_zero List.drop_succ_cons List.drop_nil List.take_zero List.take_succ_cons List.take_nil List.length_cons List.length_nil List.headD_cons List.take_of_length_le Nat.le_refl List.cons_append List.nil_append List.append_nil
 List.getD_cons_zero List.getD_cons_succ List.set_cons_zero List.set_cons_succ List.getElem?_cons_zero List.getElem?_cons_succ
 reduceIte true_and and_true Bool.true_and Bool.and_true Bool.and_self Int.toNat_natCast Option.some.injEq forall_const true_implies
theorem EntCs_map (m1 : Mem) (mp : TMap) (l : List D) : EntCs m1 mp (l.map .d) (l.map .d) = True := by
 induction l with
 | nil => rfl
 | cons x l ih => simp [EntCs, EntC, ih]
attribute [go_sem] EntCs_map
attribute [go_sem] Bool.or_self Bool.or_true Bool.true_or Bool.or_false Bool.false_or Bool.not_true Bool.not_false Bool.and_false Bool.false_and imp_self implies_true CV.one.injEq CV.tup.injEq CV.agg.injEq D.bool.injEq D.int.injEq D.str.injEq List.cons.injEq false_implies Int.natCast_nonneg Int.lt_irrefl Int.le_refl decide_true decide_false
theorem Ent_plain {st st1 : St} (h : st1.tk = [] ∧ EntSlots st st1.mem [] st1.slots ∧ EntMem st st1.mem [] st1.mem) : Ent st st1 := ⟨[], [], _, rfl, h.1, trivial, h.2.1, h.2.2⟩
theorem loop_meas {E : AEnv} {c : AC} {Q : AX → St → Prop} {α : Type} (S : α → St) (I : α → Prop) (μ : α → Nat) (a0 : α) {st : St} (h0 : Ent st (S a0)) (hi : I a0)
  (hstep : ∀ a, I a → awp E c (seqK (fun s => ∃ a', Ent s (S a') ∧ I a' ∧ μ a' < μ a) Q) (S a)) : awp E (.loop c) Q st := by
 have key : ∀ (n : Nat) (a : α) {st : St}, μ a < n → Ent st (S a) → I a → awp E (.loop c) Q st := by
  intro n
  induction n with
  | zero => intro a st h; omega
  | succ n ih =>
   intro a st hn h0 hi
   refine awp_round h0 (awp_mono c (seqK_mono (fun s h => ?_) fun _ _ h => h) (hstep a hi))
   obtain ⟨a', h1, h2, h3⟩ := h
   exact ih a' (by omega) h1 h2
 exact key _ a0 (Nat.lt_succ_self _) h0 hi
theorem Ent_own {st st1 : St} (mp : TMap) (h : st1.tk = tkOf mp ∧ mpOk st mp [] ∧ EntSlots st st1.mem mp st1.slots ∧ EntMem st st1.mem mp st1.mem) : Ent st st1 := ⟨[], mp, st, rfl, h⟩
theorem Ent_conv {st st1 : St} (k t sz : Nat) (es : List (List D)) (mp : TMap) (h1 : getS st.slots k = .full es) (h2 : ∀ e ∈ es, e.length = sz) (h3 : getT st.tk t = none)
  (h : Ent0 mp { st with slots := (k, .own t sz es) :: st.slots, tk := (t, true) :: st.tk } st1) : Ent st st1 := ⟨[(.s k, t, sz)], mp, _, ⟨_, ⟨es, h1, h2, h3, rfl⟩, rfl⟩, h⟩
attribute [go_sem_proc] Nat.reduceEqDiff reduceCtorEq Nat.reduceAdd Nat.reduceLeDiff Nat.reduceMul Nat.reduceLT
attribute [go_sem] Bool.false_eq_true Bool.true_eq_false
end Go.Abs
end
section
namespace Go.Abs
inductive Pred where
 | mk (op : Int) (name : List UInt8) (n : Int) (kids : List Pred)
namespace Pred
def op : Pred → Int | .mk o _ _ _ => o
def name : Pred → List UInt8 | .mk _ s _ _ => s
def n : Pred → Int | .mk _ _ n _ => n
def kids : Pred → List Pred | .mk _ _ _ k => k
mutual
def cells : Pred → List D
 | .mk o s n ks => [.int .i64 o, .str s, .int .i64 n, .lst (cellss ks)]
def cellss : List Pred → List (List D)
 | [] => []
 | k :: ks => cells k :: cellss ks
end
theorem cellss_eq (ks : List Pred) : cellss ks = ks.map cells := by
 induction ks with
 | nil => simp [cellss]
 | cons k ks ih => simp [cellss, ih]
theorem cells_eq (p : Pred) : cells p = [.int .i64 p.op, .str p.name, .int .i64 p.n, .lst (p.kids.map cells)] := by
 cases p; simp [cells, op, name, n, kids, cellss_eq]
theorem cells_length (p : Pred) : (cells p).length = 4 := by rw [cells_eq]; rfl
theorem cells_take (p : Pred) : (cells p).take 4 = cells p := List.take_of_length_le (by rw [cells_length]; omega)
theorem ind {P : Pred → Prop} (h : ∀ o s n ks, (∀ k ∈ ks, P k) → P (.mk o s n ks)) : ∀ p, P p :=
 fun p => Pred.rec (motive_1 := P) (motive_2 := fun ks => ∀ k ∈ ks, P k) h (fun k hk => by cases hk) (fun k ks hk hks x hx => by
  rcases List.mem_cons.1 hx with rfl | hx
  ·exact hk
  ·exact hks x hx) p
attribute [go_sem] cells_length
theorem lens (l : List Pred) : ∀ e ∈ l.map cells, e.length = 4 := by
 intro e he; obtain ⟨p, _, rfl⟩ := List.mem_map.1 he; exact cells_length p
theorem lens_true (l : List Pred) : (∀ e ∈ l.map cells, e.length = 4) = True := eq_true (lens l)
attribute [go_sem] lens_true cells_take
end Pred
theorem getD_mid {α β : Type} (f : α → β) (a : List α) (x : α) (b : List α) (d : β) : ((a ++ x :: b).map f).getD a.length d = f x := by simp
theorem i64_in (n : Int) (h : -9223372036854775808 ≤ n ∧ n ≤ 9223372036854775807) : IntKind.i64.wrap n = n := by
 unfold IntKind.wrap
 simp only [IntKind.signed, IntKind.bits, Bool.true_and, ge_iff_le, decide_eq_true_eq]
 by_cases h' : (2 : Int) ^ (64 - 1) ≤ n % 2 ^ 64
 ·rw [if_pos h']; omega
 ·rw [if_neg h']; omega
theorem wrap_succ {n : Nat} (h : (n : Int) + 1 ≤ 9223372036854775807) : IntKind.i64.wrap ((n : Int) + 1) = ((n + 1 : Nat) : Int) := by
 rw [i64_in _ (by omega)]; omega
theorem lt_mid {α : Type} {l a b : List α} {x : α} (h : l = a ++ x :: b) : (a.length : Int) < l.length := by rw [h]; simp; omega
theorem getD_mid0 {α : Type} {l : List α} (a : List α) (x : α) (b : List α) (d : α) (h : l = a ++ x :: b) : l.getD a.length d = x := by subst h; simp
end Go.Abs
end

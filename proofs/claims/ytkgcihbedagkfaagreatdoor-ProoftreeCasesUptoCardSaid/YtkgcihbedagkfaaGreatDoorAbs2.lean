/-
  A LIBRARY OF THE PROOF: an abstract machine over the texts of the translated functions, whose values are plain data, proved sound with regard to the kit's law of calls (names shortened by program).
-/
import Derived.Laws.StructEq
import Derived.ChangeKeysEq
import Derived.Laws.MakeOwn
import Derived.Laws.IdiomCopy
import Derived.Test.YtkgcihbedagkfaaGreatDoorAbs1
set_option linter.unusedSimpArgs false
set_option linter.unusedVariables false
set_option linter.unusedSectionVars false
set_option maxRecDepth 100000
section
namespace Go.Abs
open Go.RowKit
open Go.Maps (Keyed)
variable {c : Ctx} {st : St} {tmps : Array Value} {w : World} {S : Safe} {ρ : Rho}
theorem zYO {P : Program} {t k e : Nat} {kz : D} {ez : MV} (h : chkTy P t (.map k e kz ez) = true) :
  P.underlying t = some (.map k e) ∧ flatU P k kz = true ∧ ∃ ie v, P.info? e = some ie ∧ ie.zero = some v ∧ ∀ (w : World) (S : Safe), RepMV w S ez v := by
 simp only [chkTy, Bool.and_eq_true] at h
 obtain ⟨h1, h⟩ := h
 split at h
 ·rename_i k' e' i ie hu hi hie
  simp only [Bool.and_eq_true, beq_iff_eq] at h
  obtain ⟨⟨⟨⟨rfl, rfl⟩, _⟩, _⟩, h3⟩ := h
  refine ⟨hu, h1, ie, ?_⟩
  split at h3
  ·rename_i v hz
   exact ⟨v, hie, hz, fun w S => yve w S h3⟩
  ·cases h3
 ·cases h
theorem ywV {a : AV} {x : MV} {v : Value} (hr : RepA w S ρ a v) (hx : a.toMV = some x) : RepMV w S x v := by
 unfold AV.toMV at hx
 split at hx
 ·rename_i cs
  split at hx
  ·rename_i xs hxs
   cases hx
   obtain ⟨vs, rfl, h2⟩ := hr
   exact ⟨vs, rfl, zkw (zyv) 1 h2 hxs⟩
  ·cases hx
 ·cases hx; exact hr
 ·cases hx
theorem MV.yw3 {x : MV} {v : Value} (h : RepMV w S x v) : RepA w S ρ x.av v := by
 cases x with
 | one x => exact h
 | agg xs =>
  obtain ⟨cs, rfl, h2⟩ := h
  refine ⟨cs, rfl, ?_⟩
  have : ∀ {xs : List D} {l : List Value}, RepL w S xs l → RepAs w S ρ (xs.map .d) l := by
   intro xs
   induction xs with
   | nil => intro l h; exact h
   | cons x xs ih => intro l ⟨v, r, e, h1, h2⟩; exact ⟨v, r, e, h1, ih h2⟩
  exact this h2
theorem zjx {P : Program} {k : Nat} {kz : D} (h : flatU P k kz = true) : Keyed P k := by
 cases kz <;> simp only [flatU, Bool.false_eq_true] at h
 ·split at h
  ·rename_i hu; exact Maps.bool_keyed hu
  ·cases h
 ·split at h
  ·rename_i hu; exact Maps.int_keyed hu
  ·cases h
 ·split at h
  ·rename_i hu; exact Maps.string_keyed hu
  ·cases h
theorem yw8 {P : Program} {k : Nat} {kz kd : D} {v : Value} (h : flatU P k kz = true) (hl : likeD kz kd = true) (hp : plainD kd) (hr : Rep w S kd v) : keyOf P k v = some (litD kd) ∧ flatD kd = true := by
 cases kz <;> cases kd <;> simp only [likeD, Bool.false_eq_true] at hl <;> simp only [flatU] at h
 ·simp only [Rep] at hr; subst hr
  split at h
  ·rename_i hu; exact ⟨Maps.keyOf_bool_mk hu _, rfl⟩
  ·cases h
 ·simp only [Rep] at hr; subst hr
  rename_i q _ q' n
  split at h
  ·rename_i q2 hu
   simp only [beq_iff_eq] at h hl
   subst h; subst hl
   refine ⟨Maps.keyOf_int_mk hu ?_, rfl⟩
   simp only [plainD] at hp
   simp [Lit.wf, hp.1, hp.2]
  ·cases h
 ·obtain ⟨x, rfl, rfl, hs⟩ := hr
  split at h
  ·rename_i hu; exact ⟨WideMaps.keyOf_string_mk hu hs, rfl⟩
  ·cases h
theorem Sim.newMap (h : Sim c st tmps w S ρ) {s : Nat} (hs : getM st.mem s = none) (hN : s < c.N) (k e : Nat) :
  ∃ ρ', ρ.le ρ' ∧ ρ'.mbox s = some w.heap.size ∧ Sim c { st with mem := (s, [.mp k e []]) :: st.mem } tmps (w.alloc (.map #[] 0)) S ρ' := by
 have hg := h.grow (w' := w.alloc (.map #[] 0)) (S' := S) ((Below.refl _ _).alloc (Nat.le_refl _) _) (fun b o hs => hs) (fun b o hs => .inl hs) (fun b o hs => by
  obtain ⟨v, hv⟩ := h.live b o hs; exact ⟨v, zy3 hv⟩)
 have hle : ρ.le { ρ with mbox := fun k => if k = s then some w.heap.size else ρ.mbox k } := by
  refine ⟨fun _ _ h => h, fun _ _ h => h, fun k b hk => ?_⟩
  by_cases hks : k = s
  ·subst hks; rw [h.mps.new k hs] at hk; cases hk
  ·simp [hks, hk]
 have hold : ∀ k b, ρ.mbox k = some b → (getM st.mem k).isSome = true := by
  intro k b hk
  cases hm : getM st.mem k with
  | none => rw [h.mps.new k hm] at hk; cases hk
  | some _ => rfl
 have hk : Keeps (w.alloc (.map #[] 0)) S (w.alloc (.map #[] 0)) S := Keeps.refl _ _
 refine ⟨_, hle, by simp, ?_⟩
 refine { size := hg.size, slots := fun k => (hg.slots k).keep hk hle, mem := ?_, inj := hg.inj, boxNew := ?_, mps := ?_, tok := ?_, tokNew := hg.tokNew, below := hg.below, old := hg.old, new := hg.new, live := hg.live, glob := hg.glob, fx := hg.fx, ex := hg.ex, obs := hg.obs, keeps := hg.keeps, pins := h.pins.sub (fun _ _ e => .inr e) (fun s' b e => by
  simp only at e
  by_cases hs' : s' = s
  ·exact .inl (hs' ▸ hN)
  ·rw [if_neg hs'] at e; exact .inr e) }
 ·intro k' cs' hkm hnm
  simp only [getM] at hkm
  split at hkm
  ·cases hkm; cases hnm
  ·obtain ⟨b, vs, e', g1, g2, g3, g4, g6⟩ := hg.mem k' cs' hkm hnm
   exact ⟨b, vs, e', g1, g2, g3, RepAs.keep hk hle cs' _ g4, g6⟩
 ·intro k' hkm
  simp only [getM] at hkm
  split at hkm
  ·cases hkm
  ·exact h.boxNew k' hkm
 ·refine { at' := fun k' q q' kvs hkm => ?_, inj := fun k' k'' b h1 h2 => ?_, new := fun k' hkm => ?_, lt := fun k' b h1 => ?_, apart := fun k' b h1 => ?_ }
  ·simp only [getM] at hkm
   split at hkm
   ·rename_i hss
    subst hss
    simp only [Option.some.injEq, List.cons.injEq, AV.mp.injEq, and_true] at hkm
    obtain ⟨rfl, rfl, rfl⟩ := hkm
    exact ⟨w.heap.size, by simp, h.boxNew s hs, .inl h.below.size, ⟨[], rfl, World.ownsMap_made w c.P k heldR⟩⟩
   ·rename_i hss
    obtain ⟨b, g1, g2, g3⟩ := hg.mps.at' k' q q' kvs hkm
    exact ⟨b, hle.2.2 _ _ g1, g2, g3⟩
  ·have hlt : ∀ k b, ρ.mbox k = some b → b ≠ w.heap.size := fun k0 b hk0 => by have := h.mps.lt k0 b hk0; omega
   simp only at h1 h2
   split at h1 <;> split at h2
   ·simp_all
   ·cases h1; exact absurd rfl (hlt _ _ h2)
   ·cases h2; exact absurd rfl (hlt _ _ h1)
   ·exact h.mps.inj _ _ _ h1 h2
  ·simp only [getM] at hkm
   split at hkm
   ·cases hkm
   ·rename_i hss
    have : ¬ k' = s := fun e => hss e.symm
    simp [this, h.mps.new k' hkm]
  ·simp only at h1
   split at h1
   ·cases h1; exact (World.ownsMap_made w c.P k heldR).lt
   ·exact hg.mps.lt _ _ h1
  ·have : ¬ k' = s := fun e => by subst e; rw [h.boxNew k' hs] at h1; cases h1
   simp [this, h.mps.apart k' b h1]
 ·intro t ht
  obtain ⟨x, g1, g2⟩ := hg.tok t ht
  exact ⟨x, g1, g2⟩
theorem Sim.setMap (h : Sim c st tmps w S ρ) {s b k e : Nat} {kvs kvs' : List (D × MV)} {w' : World} (hb : ρ.mbox s = some b) (hs : getM st.mem s = some [.mp k e kvs]) (hg : w.grownBy w' (some b)) (hm : MapAt c.P w' S b k e kvs') :
  Sim c { st with mem := (s, [.mp k e kvs']) :: st.mem } tmps w' S ρ := by
 obtain ⟨b1, m1, m2, m3, m4⟩ := h.mps.at' s k e kvs hs
 obtain rfl := Option.some.inj (hb.symm.trans m1)
 obtain ⟨es0, clock0, hmb⟩ := m4.obj
 have hblk : ∀ b' x, w.heap[b']? = some x → b' ≠ b → w'.heap[b']? = some x := fun b' x hx hne => by
  rw [hg.block b' (Array.getElem?_eq_some_iff.1 hx).1 (fun e => hne (Option.some.inj e)), hx]
 have hcell : ∀ b' o v, w.cell? ⟨b', o, none⟩ = some v → b' ≠ b := fun b' o v hcc e => by
  subst e; simp [World.cell?, hmb] at hcc
 have hk : Keeps w S w' S := fun b' o hso => by
  obtain ⟨v, hv⟩ := h.live b' o hso
  exact ⟨hso, World.cell?_of_block (w := w) (hg.block b' (zyc hv) (fun e => hcell b' o v hv (Option.some.inj e)))⟩
 refine { size := h.size, slots := fun k => (h.slots k).keep hk ρ.le_refl, mem := ?_, inj := h.inj, boxNew := ?_, mps := ?_, tok := ?_, tokNew := h.tokNew,
          below := h.below.grown hg (fun k e => by cases e; exact m3), old := h.old, new := h.new, live := fun b' o hs => ?_, glob := fun g cs hg => RepCs.keep hk g 0 cs (h.glob g cs hg), fx := h.fx, ex := h.ex, obs := fun p hp => ⟨?_, (h.obs p hp).2⟩, keeps := fun p hp => (h.keeps p hp).trans hk, pins := h.pins }
 ·intro k' cs' hkm hnm
  simp only [getM] at hkm
  split at hkm
  ·cases hkm; cases hnm
  ·obtain ⟨b', vs, e', g1, g2, g3, g4, g6⟩ := h.mem k' cs' hkm hnm
   exact ⟨b', vs, e', g1, g2, hblk _ _ g3 (fun e => by subst e; rw [hmb] at g3; cases g3), RepAs.keep hk ρ.le_refl cs' _ g4, g6⟩
 ·intro k' hkm
  simp only [getM] at hkm
  split at hkm
  ·cases hkm
  ·exact h.boxNew k' hkm
 ·refine { at' := fun k' q q' kvs2 hkm => ?_, inj := h.mps.inj, new := fun k' hkm => ?_, lt := fun k' b' h1 => Nat.lt_of_lt_of_le (h.mps.lt k' b' h1) hg.size, apart := h.mps.apart }
  ·simp only [getM] at hkm
   split at hkm
   ·rename_i hss
    subst hss
    simp only [Option.some.injEq, List.cons.injEq, AV.mp.injEq, and_true] at hkm
    obtain ⟨rfl, rfl, rfl⟩ := hkm
    exact ⟨b, hb, m2, m3, hm⟩
   ·rename_i hss
    obtain ⟨b', g1, g2, g3, g4⟩ := h.mps.at' k' q q' kvs2 hkm
    have hne : b' ≠ b := fun e => hss (h.mps.inj _ _ _ hb (e ▸ g1))
    exact ⟨b', g1, g2, g3, g4.to hk (hg.block b' g4.lt (fun e => hne (Option.some.inj e)))⟩
  ·simp only [getM] at hkm
   split at hkm
   ·cases hkm
   ·exact h.mps.new k' hkm
 ·intro t ht
  obtain ⟨x, g1, g2⟩ := h.tok t ht
  refine ⟨x, g1, ?_⟩
  rcases g2 with g2 | ⟨b', g0, k1, ⟨cur, e', k2, k2'⟩, k3, k4, k5, k6, k7⟩
  ·exact .inl g2
  ·exact .inr ⟨b', g0, k1, ⟨cur, e', hblk _ _ k2 (fun e => by subst e; rw [hmb] at k2; cases k2), k2'⟩, k3, k4, k5, k6, k7⟩
 ·obtain ⟨v, hv⟩ := h.live b' o hs
  exact ⟨v, ((hk b' o hs).2).trans hv⟩
 ·have hp1 := h.obs p hp
  exact hblk _ _ hp1.1 (fun e => by rw [e, hmb] at hp1; rw [← Option.some.inj hp1.1] at hp1; cases hp1.2)
theorem yvB (h : Sim c st tmps w S ρ) {o : Oper} {t : TypeId} {k e : Nat} {ds : List Deferred} (ho : o.op = .makeMap t none) {s : Nat} (hs : getM st.mem s = none) (hN : s < c.N) :
  ∃ ρ', (execOp (Act.eval ⟨tmps, ds⟩) o).run c.P w = .ok (.value (.map (some w.heap.size))) (w.alloc (.map #[] 0)) ∧ ρ'.mbox s = some w.heap.size ∧ Sim c { st with mem := (s, [.mp k e []]) :: st.mem } tmps (w.alloc (.map #[] 0)) S ρ' := by
 obtain ⟨ρ', _, h2, h3⟩ := h.newMap hs hN k e
 refine ⟨ρ', ?_, h2, h3⟩
 unfold execOp
 simp only [ho]
 simp [run_makeMap]
theorem ykX (h : Sim c st tmps w S ρ) {o : Oper} {t : TypeId} {k e : Nat} {kz : D} {ez : MV} (ht : chkTy c.P t (.map k e kz ez) = true) {x y z : Operand} {x' y' z' : X} {ds : List Deferred} (ho : o.op = .mapUpdate t x y z) (hx : trX x = some x') (hy : trX y = some y') (hz : trX z = some z')
  {s : Nat} {kvs : List (D × MV)} {kd : D} {vd : MV} (ex : ev st x' = .mref s) (ey : ev st y' = .d kd) (ez' : (ev st z').toMV = some vd) (hm : getM st.mem s = some [.mp k e kvs]) (g1 : gd st x' = true) (g2 : gd st y' = true) (g3 : gd st z' = true)
  (hl : likeD kz kd = true) (hp : plainD kd) (hn : kvs.length < 9223372036854775807) :
  ∃ w', (execOp (Act.eval ⟨tmps, ds⟩) o).run c.P w = .ok .skip w' ∧ Sim c { st with mem := (s, [.mp k e ((kd, vd) :: kvs)]) :: st.mem } tmps w' S ρ := by
 obtain ⟨hu, hk, _⟩ := zYO ht
 have e1 := h.ev hx g1 (ds := ds)
 have e2 := h.ev hy g2 (ds := ds)
 have e3 := ywV (h.ev hz g3 (ds := ds)) ez'
 rw [ex] at e1; rw [ey] at e2
 obtain ⟨b, hb, hv⟩ := e1
 obtain ⟨b1, m1, m2, m3, l, m4, m5⟩ := h.mps.at' s k e kvs hm
 obtain rfl := Option.some.inj (hb.symm.trans m1)
 obtain ⟨hkey, hkf⟩ := yw8 hk hl hp e2
 obtain ⟨w', hrun, r1, r2⟩ := m5.update (zjx hk) hu hn hkey (show heldR (Act.eval ⟨tmps, ds⟩ z) = some (.held (Act.eval ⟨tmps, ds⟩ z), []) from rfl)
 obtain ⟨es0, clock0, hmb⟩ : ∃ es clock, w.heap[b]? = some (Obj.map es clock) := by obtain ⟨es, clock, hb, _⟩ := m5; exact ⟨es, clock, hb⟩
 have hcell : ∀ b' o v, w.cell? ⟨b', o, none⟩ = some v → b' ≠ b := fun b' o v hcc e => by
  subst e; simp [World.cell?, hmb] at hcc
 have hkw : Keeps w S w' S := fun b' o hso => by
  obtain ⟨v, hv⟩ := h.live b' o hso
  exact ⟨hso, World.cell?_of_block (w := w) (r2.block b' (zyc hv) (fun e => hcell b' o v hv (Option.some.inj e)))⟩
 refine ⟨w', ?_, h.setMap hb hm r2 ⟨(kd, _) :: l, ⟨_, _, rfl, hkf, e3.keep hkw, m4.keep hkw⟩, r1⟩⟩
 unfold execOp
 simp only [ho, hv]
 simp [hrun]
theorem ykV (h : Sim c st tmps w S ρ) {o : Oper} {t : TypeId} {k e k' e' : Nat} {kz : D} {ez : MV} {tys : List TypeId} (ht : chkTy c.P t (.map k' e' kz ez) = true) {x : Operand} {x' : X} {ds : List Deferred} (ho : o.op = .call { callee := .builtin .clear, args := #[x], argTypes := (t :: tys).toArray }) (hd : o.dst = none) (hx : trX x = some x')
  {s : Nat} {kvs : List (D × MV)} (ex : ev st x' = .mref s) (hm : getM st.mem s = some [.mp k e kvs]) (g1 : gd st x' = true) :
  ∃ w', (execOp (Act.eval ⟨tmps, ds⟩) o).run c.P w = .ok (.value (.tuple #[])) w' ∧ Sim c { st with mem := (s, [.mp k e []]) :: st.mem } tmps w' S ρ := by
 obtain ⟨hu, hk, _⟩ := zYO ht
 have e1 := h.ev hx g1 (ds := ds)
 rw [ex] at e1
 obtain ⟨b, hb, hv⟩ := e1
 obtain ⟨b1, m1, m2, m3, l, m4, m5⟩ := h.mps.at' s k e kvs hm
 obtain rfl := Option.some.inj (hb.symm.trans m1)
 obtain ⟨es, clock, hmb, _⟩ := id m5
 have hg : w.grownBy (ChangeMaps.setBlock w b (.map #[] clock)) (some b) := ⟨rfl, rfl, rfl, by simp [ChangeMaps.setBlock], fun i _ hi => ChangeMaps.heap_setBlock_other hmb _ (fun e => hi (by rw [e]))⟩
 refine ⟨ChangeMaps.setBlock w b (.map #[] clock), ?_, h.setMap hb hm hg ⟨[], rfl, #[], clock, ChangeMaps.heap_setBlock_same hmb _, ⟨by simp, MapKept.stamped_empty clock, by simp⟩, Nat.le_refl _, rfl⟩⟩
 unfold execOp
 simp [ho, resolve, invoke, builtin, Builtin.clear_, hv, run_underlying hu, MapKept.run_getObj_map hmb, MapKept.run_setObj_map _ hmb, ChangeMaps.setBlock]
theorem ykW (h : Sim c st tmps w S ρ) {o : Oper} {t : TypeId} {k e : Nat} {kz : D} {ez : MV} (ht : chkTy c.P t (.map k e kz ez) = true) {x y : Operand} {x' y' : X} {ds : List Deferred} {ok : Bool} (ho : o.op = .lookup t x y ok) (hx : trX x = some x') (hy : trX y = some y')
  {r : AV × Prop × Bool} (hr : opv c.G st (.mget 0 ok k e kz ez x' y') = some r) (hob : r.2.1) (hg : r.2.2 = true) :
  ∃ cv, (execOp (Act.eval ⟨tmps, ds⟩) o).run c.P w = .ok (.value cv) w ∧ RepA w S ρ r.1 cv := by
 obtain ⟨hu, hk, ie, z, hie, hz, hzr⟩ := zYO ht
 simp only [opv] at hr
 split at hr
 ·rename_i s kd ex ey
  split at hr
  ·rename_i k' e' kvs hm
   cases hr
   simp only at hob hg
   obtain ⟨⟨rfl, rfl⟩, hl, hp⟩ := hob
   simp only [Bool.and_eq_true] at hg
   have e1 := h.ev hx hg.1 (ds := ds)
   have e2 := h.ev hy hg.2 (ds := ds)
   rw [ex] at e1; rw [ey] at e2
   obtain ⟨b, hb, hv⟩ := e1
   obtain ⟨b1, m1, m2, m3, l, m4, m5⟩ := h.mps.at' s k' e' kvs hm
   obtain rfl := Option.some.inj (hb.symm.trans m1)
   obtain ⟨hkey, hkf⟩ := yw8 hk hl hp e2
   have hzz : (zeroValue e').run c.P w = .ok z w := by simp [zeroValue, hie, hz, run_typeInfo]
   obtain ⟨vr, hat, hrep⟩ := zX6 hkf (hzr w S) m4
   cases ok with
   | true =>
    obtain ⟨v, ps, hrun, hv2⟩ := m5.look_ok (zjx hk) hu hzz (zd := .held z) (zp := []) rfl hkey
    rw [hat] at hv2
    obtain rfl := zJ2 hv2
    rw [zQc hkf m4] at hrun
    refine ⟨.tuple #[v, .bool (mapHas kvs kd)], ?_, ⟨_, rfl, ?_⟩⟩
    ·unfold execOp
     simp only [ho, hv]
     simp [hrun]
    ·exact ⟨_, _, rfl, MV.yw3 hrep, _, _, rfl, rfl, rfl⟩
   | false =>
    obtain ⟨v, ps, hrun, hv2⟩ := m5.lookup (zjx hk) hu hzz (zd := .held z) (zp := []) rfl hkey
    rw [hat] at hv2
    obtain rfl := zJ2 hv2
    refine ⟨v, ?_, MV.yw3 hrep⟩
    unfold execOp
    simp only [ho, hv]
    simp [hrun]
  ·cases hr
 ·cases hr
end Go.Abs
end
section
namespace Go.Abs
open Go.RowKit
variable {c : Ctx} {st : St} {tmps : Array Value} {w : World} {S : Safe} {ρ : Rho}
theorem Sim.yw4 (h : Sim c st tmps w S ρ) {s b : Nat} (hb : ρ.box s = some b) : b < w.heap.size := by
 cases hs : getM st.mem s with
 | none => rw [h.boxNew s hs] at hb; cases hb
 | some cs =>
  obtain ⟨b', vs, e, h1, h2, h3, _⟩ := h.mem s cs hs (h.noMp hb hs)
  rw [hb] at h1; cases h1
  exact (Array.getElem?_eq_some_iff.1 h3).1
theorem Sim.yki (h : Sim c st tmps w S ρ) {t b : Nat} {y : Nat × Nat × Nat} (ht : getT st.tk t = some true) (hb : ρ.tok t = some (some ⟨b, 0, none⟩, y)) (hy : y.1 ≠ y.2.1) : b < w.heap.size := by
 obtain ⟨x, h1, h2⟩ := h.tok t ht
 rw [hb] at h1; cases h1
 rcases h2 with h2 | ⟨b', k0, _, ⟨cur, e, k2, _⟩, _⟩
 ·exact absurd h2 hy
 ·cases k0; exact (Array.getElem?_eq_some_iff.1 k2).1
def Handed (c : Ctx) (st : St) (w : World) (ρ : Rho) (b : Nat) : Prop :=
 c.Own b ∧ (∃ cur e, w.heap[b]? = some (.cells cur e (0, 0))) ∧ (∀ s, ρ.box s ≠ some b) ∧ ∀ t b' y, getT st.tk t = some true → ρ.tok t = some (some ⟨b', 0, none⟩, y) → y.1 ≠ y.2.1 → b' ≠ b
theorem Sim.growX (h : Sim c st tmps w S ρ) {w' : World} {S' : Safe} {X : List Nat} (hX : ∀ b ∈ X, Handed c st w ρ b) (hb : BelowO (OwnX c.P w X) w w') (hk : Keeps w S w' S') (hS' : ∀ b o, S' b o → S b o ∨ OwnX c.P w X b) (hl : Live w' S') : Sim c st tmps w' S' ρ := by
 have hblk : ∀ b x, w.heap[b]? = some x → b ∉ X → w'.heap[b]? = some x := fun b x hx hn => by
  rw [hb.block b (fun ho => ?_), hx]
  rcases ho with ho | ⟨ho, _⟩
  ·have := (Array.getElem?_eq_some_iff.1 hx).1; omega
  ·exact hn ho
 have hnot : ∀ b x o, w.heap[b]? = some x → b ∉ X → ¬ S b o → ¬ S' b o := fun b x o hx hn hno hs => by
  rcases hS' b o hs with h1 | h1 | ⟨h1, _⟩
  ·exact hno h1
  ·have := (Array.getElem?_eq_some_iff.1 hx).1; omega
  ·exact hn h1
 have hmap : SameMaps w w' := ⟨hb.size, fun b es clock hx => (hblk b _ hx (fun hm => by
  obtain ⟨_, ⟨cur, e, h2⟩, _⟩ := hX b hm
  rw [hx] at h2; cases h2)).trans hx.symm⟩
 refine { size := h.size, slots := fun k => (h.slots k).keep hk ρ.le_refl, mem := ?_, inj := h.inj, boxNew := h.boxNew, mps := h.mps.to hk hmap, tok := ?_, tokNew := h.tokNew,
          below := ?_, old := fun b o hs => (hk b o (h.old b o hs)).1, new := ?_, live := hl, glob := fun g cs hg => RepCs.keep hk g 0 cs (h.glob g cs hg), fx := h.fx, ex := h.ex, obs := fun p hp => ⟨?_, (h.obs p hp).2⟩, keeps := fun p hp => (h.keeps p hp).trans hk, pins := h.pins }
 ·intro s cs hs hnm
  obtain ⟨b, vs, e, h1, h2, h3, h4, h6⟩ := h.mem s cs hs hnm
  have hn : b ∉ X := fun hm => (hX b hm).2.2.1 s h1
  exact ⟨b, vs, e, h1, h2, hblk _ _ h3 hn, RepAs.keep hk ρ.le_refl cs _ h4, fun o => hnot b _ o h3 hn (h6 o)⟩
 ·intro t ht
  obtain ⟨x, h1, h2⟩ := h.tok t ht
  refine ⟨x, h1, ?_⟩
  by_cases hfull : x.2.1 = x.2.2.1
  ·exact .inl hfull
  rcases h2 with h2 | ⟨b, g0, g1, ⟨cur, e, g2, g3⟩, g4, g5, g7, g8, g9⟩
  ·exact .inl h2
  ·have hn : b ∉ X := fun hm => (hX b hm).2.2.2 t b x.2 ht (by rw [h1, ← g0]) hfull rfl
   exact .inr ⟨b, g0, g1, ⟨cur, e, hblk _ _ g2 hn, g3⟩, g4, g5, fun o ho => hnot b _ o g2 hn (g7 o ho), g8, g9⟩
 ·refine ⟨hb.os.trans h.below.os, hb.tape.trans h.below.tape, hb.output.trans h.below.output, Nat.le_trans h.below.size hb.size, fun k hno => ?_⟩
  refine (hb.block k fun ho => ?_).trans (h.below.block k hno)
  rcases ho with ho | ⟨ho, _⟩
  ·exact hno (.inl (Nat.le_trans h.below.size ho))
  ·exact hno (hX k ho).1
 ·intro b o hs
  rcases hS' b o hs with h1 | h1 | ⟨h1, _⟩
  ·exact h.new b o h1
  ·exact .inr (.inl (Nat.le_trans h.below.size h1))
  ·exact .inr (hX b h1).1
 ·refine hblk _ _ (h.obs p hp).1 fun hm => ?_
  obtain ⟨_, ⟨cur, e, h2⟩, _⟩ := hX _ hm
  have h3 := h.obs p hp
  rw [h2] at h3
  have h4 := Option.some.inj h3.1
  have h5 := h3.2
  rw [← h4] at h5; cases h5
theorem yzM {m : Mem} {n : Nat} : ∀ {as : List AV} {l : List Value} {cvs : List CV} {k : Nat} {a : AV}, RepAs w S ρ as l → toCVs m n as = some cvs → as.getD k .undef = a → a ≠ .undef →
  ∃ v cv, l[k]? = some v ∧ RepA w S ρ a v ∧ cvs[k]? = some cv ∧ a.toCV m n = some cv
 | [], l, cvs, k, a, h, hc, ha, hne => by simp at ha; exact absurd ha.symm hne
 | x :: as, l, cvs, k, a, ⟨v, r, e, h1, h2⟩, hc, ha, hne => by
  subst e
  simp only [toCVs] at hc
  split at hc
  ·rename_i y ys hy hys
   cases hc
   cases k with
   | zero =>
    simp only [List.getD_cons_zero] at ha
    subst ha
    exact ⟨v, y, rfl, h1, rfl, hy⟩
   | succ k =>
    simp only [List.getD_cons_succ] at ha
    exact yzM (k := k) h2 hys ha hne
  ·cases hc
theorem zVE {l r : List Value} {k : Nat} {v : Value} (h : l[k]? = some v) : (l ++ r)[k]? = some v := by
 rw [List.getElem?_append_left (List.getElem?_eq_some_iff.1 h).1]; exact h
theorem yz1 {l r : List CV} {k : Nat} {v : CV} (h : l[k]? = some v) : (l ++ r)[k]? = some v := by
 rw [List.getElem?_append_left (List.getElem?_eq_some_iff.1 h).1]; exact h
theorem Sim.takes (h : Sim c st tmps w S ρ) {as : List AV} {l cl : List Value} {cvs caps : List CV} {sz : Nat} {a : Option Nat} (hr : RepAs w S ρ as l) (hc : toCVs [] 1 as = some cvs) (ho : argOwn st.tk as sz a) :
  ∃ X, TakesX c.P w S X (cvs ++ caps) (l ++ cl) sz a ∧ Sim c { st with tk := tkUse (ownTok as a) st.tk } tmps w S ρ ∧ (∀ b ∈ X, Handed c { st with tk := tkUse (ownTok as a) st.tk } w ρ b) := by
 cases a with
 | none => exact ⟨[], rfl, h, fun b hb => by cases hb⟩
 | some k =>
  simp only [argOwn, ownTok] at ho ⊢
  split at ho
  ·rename_i u sz' es hk
   obtain ⟨rfl, hu⟩ := ho
   obtain ⟨v, cv, h1, h2, h3, h4⟩ := yzM hr hc hk (by simp)
   simp only [hk, tkUse]
   obtain ⟨hl, hlen, base, n, cap, htok, hv⟩ := h2
   simp only [AV.toCV, AV.toD, Option.some.injEq] at h4
   subst h4
   obtain ⟨x, g1, g2⟩ := h.tok u hu
   rw [htok] at g1
   cases g1
   rcases g2 with g2 | ⟨b, k0, k1, ⟨cur, e, k2, k2'⟩, k3, k4, k5, k6, k7⟩
   ·exact ⟨[], ⟨es, v, yz1 h3, hlen, zVE h1, base, n, cap, hv, .inl g2⟩, h.kill u, fun b hb => by cases hb⟩
   ·refine ⟨[b], ⟨es, v, yz1 h3, hlen, zVE h1, base, n, cap, hv, .inr ⟨b, k0, ⟨rfl, ?_⟩, ⟨cur, e, k2, k2'⟩, k3, k4, k5⟩⟩, h.kill u, fun b' hb => ?_⟩
    ·rcases k1 with k1 | ⟨_, k1⟩
     ·exact Nat.le_trans h.ex.1 k1
     ·exact k1
    ·rw [List.mem_singleton] at hb
     subst hb
     refine ⟨k1, ⟨cur, e, k2⟩, k6, fun t b'' y ht hb hy => ?_⟩
     obtain ⟨ht1, ht2⟩ := zyf ht
     exact k7 t b'' y ht2 ht1 hb hy
  ·rename_i es hk
   obtain ⟨v, cv, h1, h2, h3, h4⟩ := yzM hr hc hk (by simp)
   simp only [hk, tkUse]
   obtain ⟨hl, base, n, hv⟩ := h2
   simp only [AV.toCV, AV.toD, Option.some.injEq] at h4
   subst h4
   exact ⟨[], ⟨es, v, yz1 h3, ho, zVE h1, base, n, n, hv, .inl rfl⟩, h, fun b hb => by cases hb⟩
  ·exact ho.elim
theorem ywd {u : Option Nat} {tk : List (Nat × Bool)} {t : Nat} (h : getT tk t = none) : getT (tkUse u tk) t = none := by
 cases u with
 | none => exact h
 | some u => exact zxX.2 h
theorem Sim.gotOwn (h : Sim c st tmps w S ρ) {w' : World} {S' : Safe} {X : List Nat} (hX : ∀ b ∈ X, Handed c st w ρ b) (hb : BelowO (OwnX c.P w X) w w') (hk : Keeps w S w' S') (hS' : ∀ b o, S' b o → S b o ∨ OwnX c.P w X b) (hl : Live w' S')
  {es : List (List D)} {sz : Nat} {v : Value} (hv : Rep w' S' (.lst es) v) (hlen : ∀ e ∈ es, e.length = sz) (hroom : Room (OwnX c.P w X) w' S' sz v) {d : Nat} (hd : getT st.tk d = none) :
  ∃ ρ', Sim c { st with tk := (d, true) :: st.tk } tmps w' S' ρ' ∧ RepA w' S' ρ' (.own d sz es) v := by
 have hs := h.growX hX hb hk hS' hl
 obtain ⟨base, n, cap, hv', hr⟩ := hroom
 obtain ⟨ρ', hle, htok, hs'⟩ := hs.newTok (d := d) hd none (tk' := (d, true) :: st.tk) (fun t => by
  simp only [getT, reduceCtorEq, if_false]
  by_cases ht : d = t
  ·subst ht; simp
  ·rw [if_neg ht, if_neg (fun e => ht e.symm)]) (base, n, cap, sz) (by
  rcases hr with hr | ⟨b, k0, k1, k2, k3, k4, k5⟩
  ·exact .inl hr
  ·refine .inr ⟨b, k0, ?_, k2, k3, k4, k5, fun s hsb => ?_, fun t b' y _ ht hb' hy => ?_⟩
   ·rcases k1 with k1 | ⟨k1, _⟩
    ·exact .inl (Nat.le_trans h.below.size k1)
    ·exact (hX b k1).1
   ·rcases k1 with k1 | ⟨k1, _⟩
    ·have := h.yw4 hsb; omega
    ·exact (hX b k1).2.2.1 s hsb
   ·rcases k1 with k1 | ⟨k1, _⟩
    ·have := h.yki ht hb' hy; omega
    ·exact (hX b k1).2.2.2 t b' y ht hb' hy)
 exact ⟨ρ', hs', hv, hlen, base, n, cap, htok, hv'⟩
end Go.Abs
end
section
namespace Go.Abs
open Go.RowKit
variable {c : Ctx} {st : St} {tmps : Array Value} {w : World} {S : Safe} {ρ : Rho}
theorem zZZ {st : St} : ∀ {mp : TMap} {us : List Nat}, mpOk st mp us → (∀ t u, getTM mp t = some u → getT st.tk u = some true ∧ us.contains u = false) ∧ (∀ t t' u, getTM mp t = some u → getTM mp t' = some u → t = t')
 | [], _, _ => ⟨fun t u h => by simp [getTM] at h, fun t t' u h => by simp [getTM] at h⟩
 | (k, u0) :: r, us, h => by
  obtain ⟨⟨h0, h1⟩, h2⟩ := h
  obtain ⟨i1, i2⟩ := zZZ h2
  have hno : ∀ t u, getTM r t = some u → u ≠ u0 ∧ us.contains u = false := by
   intro t u ht
   have := (i1 t u ht).2
   simp only [List.contains_cons, Bool.or_eq_false_iff, beq_eq_false_iff_ne] at this
   exact ⟨this.1, this.2⟩
  refine ⟨fun t u ht => ?_, fun t t' u ht ht' => ?_⟩
  ·simp only [getTM] at ht
   split at ht
   ·cases ht; exact ⟨h1, h0⟩
   ·exact ⟨(i1 t u ht).1, (hno t u ht).2⟩
  ·simp only [getTM] at ht ht'
   split at ht <;> split at ht'
   ·simp_all
   ·cases ht; exact absurd rfl (hno t' _ ht').1
   ·cases ht'; exact absurd rfl (hno t _ ht).1
   ·exact i2 t t' u ht ht'
theorem zxa : ∀ (mp : TMap) (t : Nat), getT (tkOf mp) t = (getTM mp t).map fun _ => true
 | [], t => rfl
 | (k, u) :: r, t => by
  simp only [tkOf, getT, getTM]
  split
  ·rfl
  ·exact zxa r t
theorem zyD : ∀ {σ : TMap} {s u : Nat}, getTM σ s = some u → (s, u) ∈ σ
 | (k, v) :: l, s, u, h => by
  simp only [getTM] at h
  split at h
  ·rename_i hk; subst hk; cases h; exact List.mem_cons_self
  ·exact List.mem_cons_of_mem _ (zyD h)
theorem zjD : ∀ {l : List Nat} {a : Nat}, noTwice (a :: l) = true → a ∉ l ∧ noTwice l = true
 | l, a, h => by
  simp only [noTwice, Bool.and_eq_true, Bool.not_eq_true', List.contains_eq_mem, decide_eq_false_iff_not] at h
  exact h
theorem zxz : ∀ {σ : TMap} {s u : Nat}, noTwice (σ.map (·.1)) = true → (s, u) ∈ σ → getTM σ s = some u
 | (k, v) :: l, s, u, hn, h => by
  obtain ⟨h1, h2⟩ := zjD (by simpa using hn)
  simp only [getTM]
  rcases List.mem_cons.1 h with e | h
  ·cases e; rw [if_pos rfl]
  ·rw [if_neg]
   ·exact zxz h2 h
   ·rintro rfl; exact h1 (List.mem_map.2 ⟨_, h, rfl⟩)
theorem zZ2 : ∀ {σ : TMap} {s s' u : Nat}, noTwice (σ.map (·.2)) = true → (s, u) ∈ σ → (s', u) ∈ σ → s = s'
 | (k, v) :: l, s, s', u, hn, h, h' => by
  obtain ⟨h1, h2⟩ := zjD (by simpa using hn)
  rcases List.mem_cons.1 h with e | h <;> rcases List.mem_cons.1 h' with e' | h'
  ·cases e; cases e'; rfl
  ·cases e; exact absurd (List.mem_map.2 ⟨_, h', rfl⟩) h1
  ·cases e'; exact absurd (List.mem_map.2 ⟨_, h, rfl⟩) h1
  ·exact zZ2 h2 h h'
def rho0 (ρ : Rho) (σ τ : TMap) : Rho := { box := fun s => (getTM σ s).bind ρ.box, mbox := fun s => (getTM σ s).bind ρ.mbox, tok := fun t => (getTM τ t).bind ρ.tok }
theorem Match0.sound {σ τ : TMap} {a a0 : AV} {v : Value} (h : RepA w S ρ a v) (hm : Match0 σ τ a a0) : RepA w S (rho0 ρ σ τ) a0 v := by
 cases a0 with
 | d x => exact zXe (m := []) zyv 1 a v x h hm
 | own t sz es =>
  simp only [Match0] at hm
  split at hm
  ·rename_i u hu
   subst hm
   obtain ⟨h1, h2, base, n, cap, h3, h4⟩ := h
   exact ⟨h1, h2, base, n, cap, by simp only [rho0, hu, Option.bind_some]; exact h3, h4⟩
  ·exact hm.elim
 | ptr s off =>
  simp only [Match0] at hm
  split at hm
  ·rename_i u hu
   subst hm
   obtain ⟨b, h1, h2⟩ := h
   exact ⟨b, by simp only [rho0, hu, Option.bind_some]; exact h1, h2⟩
  ·exact hm.elim
 | mref s =>
  simp only [Match0] at hm
  split at hm
  ·rename_i u hu
   subst hm
   obtain ⟨b, h1, h2⟩ := h
   exact ⟨b, by simp only [rho0, hu, Option.bind_some]; exact h1, h2⟩
  ·exact hm.elim
 | vec s esz off n cap =>
  simp only [Match0] at hm
  split at hm
  ·rename_i u hu
   subst hm
   obtain ⟨k1, k2, b, h1, h2⟩ := h
   exact ⟨k1, k2, b, by simp only [rho0, hu, Option.bind_some]; exact h1, h2⟩
  ·exact hm.elim
 | undef => trivial
 | _ => exact hm.elim
theorem Match0s.sound {σ τ : TMap} : ∀ {as bs : List AV} {vs : List Value}, RepAs w S ρ as vs → Match0s σ τ as bs → RepAs w S (rho0 ρ σ τ) bs vs
 | [], [], _, h, _ => h
 | _ :: _, _ :: _, _, ⟨v, r, e, h1, h2⟩, hm => ⟨v, r, e, Match0.sound h1 hm.1, Match0s.sound h2 hm.2⟩
 | [], _ :: _, _, _, hm => hm.elim
 | _ :: _, [], _, _, hm => hm.elim
theorem Match1.sound {σ τ : TMap} {a a0 : AV} {v : Value} (h : RepA w S ρ a v) (hm : Match1 σ τ a a0) : RepA w S (rho0 ρ σ τ) a0 v := by
 cases a0 with
 | clo f0 cs0 =>
  cases a with
  | clo f cs =>
   obtain ⟨rfl, hm⟩ := hm
   obtain ⟨vs, h1, h2⟩ := h
   exact ⟨vs, h1, Match0s.sound h2 hm⟩
  | _ => exact hm.elim
 | _ => exact Match0.sound h hm
theorem Matches.sound {σ τ : TMap} : ∀ {as bs : List AV} {vs : List Value}, RepAs w S ρ as vs → Matches σ τ as bs → RepAs w S (rho0 ρ σ τ) bs vs
 | [], [], _, h, _ => h
 | a :: as, b :: bs, _, ⟨v, r, e, h1, h2⟩, hm => ⟨v, r, e, Match1.sound h1 hm.1, Matches.sound h2 hm.2⟩
 | [], _ :: _, _, _, hm => hm.elim
 | _ :: _, [], _, _, hm => hm.elim
theorem MatchV.sound {σ τ : TMap} {a a0 : AV} {v : Value} (h : RepA w S ρ a v) (hm : MatchV σ τ a a0) : RepA w S (rho0 ρ σ τ) a0 v := by
 cases a0 with
 | agg cs0 =>
  cases a with
  | agg cs =>
   obtain ⟨vs, h1, h2⟩ := h
   exact ⟨vs, h1, Matches.sound h2 hm⟩
  | _ => exact hm.elim
 | _ => exact Match1.sound h hm
theorem MatchVs.sound {σ τ : TMap} : ∀ {as bs : List AV} {vs : List Value}, RepAs w S ρ as vs → MatchVs σ τ as bs → RepAs w S (rho0 ρ σ τ) bs vs
 | [], [], _, h, _ => h
 | a :: as, b :: bs, _, ⟨v, r, e, h1, h2⟩, hm => ⟨v, r, e, MatchV.sound h1 hm.1, MatchVs.sound h2 hm.2⟩
 | [], _ :: _, _, _, hm => hm.elim
 | _ :: _, [], _, _, hm => hm.elim
theorem Matches.noMp {σ τ : TMap} {cs cs0 : List AV} (h : Matches σ τ cs cs0) : isMp cs = false := by
 cases hm : isMp cs with
 | false => rfl
 | true =>
  obtain ⟨k, e, kvs, rfl⟩ := zxd.1 hm
  cases cs0 with
  | nil => exact h.elim
  | cons a0 r =>
   have h1 := h.1
   cases a0 <;> simp only [Match1, Match0, AV.toD, AV.isMp, Bool.true_eq_false, reduceCtorEq] at h1
   all_goals (split at h1 <;> first | exact h1.elim | cases h1)
theorem MatchMem.get {st : St} {τ σ0 : TMap} : ∀ {σ : TMap} {m : Mem}, MatchMem st τ σ0 σ m → (∀ s cs0, getM m s = some cs0 → ∃ s' cs, getTM σ s = some s' ∧ getM st.mem s' = some cs ∧ ((isMp cs0 = true ∧ cs = cs0) ∨ (isMp cs0 = false ∧ isMp cs = false ∧ Matches σ0 τ cs cs0))) ∧
  (∀ s, getM m s = none → getTM σ s = none) ∧ (∀ p ∈ σ, 1000 ≤ p.1 ∧ (getM st.mem p.2).isSome = true)
 | [], [], _ => ⟨fun s cs0 h => by simp [getM] at h, fun s _ => rfl, fun p hp => by cases hp⟩
 | (s, s') :: σ, (s0, cs0) :: m, h => by
  obtain ⟨⟨rfl, hge, hm⟩, hr⟩ := h
  obtain ⟨i1, i2, i3⟩ := MatchMem.get hr
  refine ⟨fun k ck hk => ?_, fun k hk => ?_, fun p hp => ?_⟩
  ·simp only [getM] at hk
   simp only [getTM]
   by_cases hks : s0 = k
   ·subst hks
    rw [if_pos rfl] at hk ⊢
    cases hk
    split at hm
    ·rename_i cs hcs
     refine ⟨s', cs, rfl, hcs, ?_⟩
     split at hm
     ·exact .inl ⟨rfl, hm⟩
     ·rename_i hne
      have h0 : isMp cs0 = false := by
       cases hmp : isMp cs0 with
       | false => rfl
       | true => obtain ⟨k, e, kvs, rfl⟩ := zxd.1 hmp; exact absurd rfl (hne k e kvs)
      exact .inr ⟨h0, hm.noMp, hm⟩
    ·exact hm.elim
   ·rw [if_neg hks] at hk ⊢
    exact i1 k ck hk
  ·simp only [getM] at hk
   simp only [getTM]
   by_cases hks : s0 = k
   ·rw [if_pos hks] at hk; cases hk
   ·rw [if_neg hks] at hk ⊢; exact i2 k hk
  ·rcases List.mem_cons.1 hp with rfl | hp
   ·refine ⟨hge, ?_⟩
    split at hm
    ·rename_i cs hcs; simp [hcs]
    ·exact hm.elim
   ·exact i3 p hp
 | [], _ :: _, h => h.elim
 | _ :: _, [], h => h.elim
def blocksOf (ρ : Rho) (σ τ : TMap) : List Nat := σ.filterMap (fun p => ρ.box p.2) ++ σ.filterMap (fun p => ρ.mbox p.2) ++ τ.filterMap fun p => match ρ.tok p.2 with
 | some (some a, n, cap, _) => if n = cap then none else some a.block
 | _ => none
theorem zQD {σ τ : TMap} {s s' b : Nat} (h : getTM σ s = some s') (hb : ρ.box s' = some b) : b ∈ blocksOf ρ σ τ :=
 List.mem_append_left _ (List.mem_append_left _ (List.mem_filterMap.2 ⟨(s, s'), zyD h, hb⟩))
theorem zVH {σ τ : TMap} {s s' b : Nat} (h : getTM σ s = some s') (hb : ρ.mbox s' = some b) : b ∈ blocksOf ρ σ τ :=
 List.mem_append_left _ (List.mem_append_right _ (List.mem_filterMap.2 ⟨(s, s'), zyD h, hb⟩))
theorem zQE {σ τ : TMap} {t u b : Nat} {y : Nat × Nat × Nat} (h : getTM τ t = some u) (hb : ρ.tok u = some (some ⟨b, 0, none⟩, y)) (hy : y.1 ≠ y.2.1) : b ∈ blocksOf ρ σ τ := by
 refine List.mem_append_right _ (List.mem_filterMap.2 ⟨(t, u), zyD h, ?_⟩)
 obtain ⟨n, cap, sz⟩ := y
 simp only [hb]
 rw [if_neg hy]
theorem zx3 {σ τ : TMap} {b : Nat} (hn : noTwice (τ.map (·.1)) = true) (h : b ∈ blocksOf ρ σ τ) : (∃ s s', (s, s') ∈ σ ∧ ρ.box s' = some b) ∨ (∃ s s', (s, s') ∈ σ ∧ ρ.mbox s' = some b) ∨ ∃ t u a n cap sz, getTM τ t = some u ∧ ρ.tok u = some (some a, n, cap, sz) ∧ n ≠ cap ∧ a.block = b := by
 rcases List.mem_append.1 h with h | h
 ·rcases List.mem_append.1 h with h | h
  ·obtain ⟨p, hp, hb⟩ := List.mem_filterMap.1 h; exact .inl ⟨p.1, p.2, hp, hb⟩
  ·obtain ⟨p, hp, hb⟩ := List.mem_filterMap.1 h; exact .inr (.inl ⟨p.1, p.2, hp, hb⟩)
 ·obtain ⟨p, hp, hb⟩ := List.mem_filterMap.1 h
  split at hb
  ·rename_i a n cap sz ht
   split at hb
   ·cases hb
   ·rename_i hne
    cases hb
    exact .inr (.inr ⟨p.1, p.2, a, n, cap, sz, zxz hn hp, ht, hne, rfl⟩)
  ·cases hb
theorem Sim.handB (h : Sim c st tmps w S ρ) {σ τ : TMap} {m0 : Mem} (hm : MatchMem st τ σ σ m0) (ht : mpOk st τ []) (hs1 : noTwice (σ.map (·.1)) = true) (hs2 : noTwice (σ.map (·.2)) = true) :
  Sim (ctxB c.P c.G w S (blocksOf ρ σ τ) (σ.filterMap fun p => (ρ.box p.2).map fun b => (p.1, b)) (σ.filterMap fun p => (ρ.mbox p.2).map fun b => (p.1, b)) none) ⟨[], m0, tkOf τ⟩ #[] w S (rho0 ρ σ τ) := by
 obtain ⟨g1, g2, g3⟩ := hm.get
 obtain ⟨t1, t2⟩ := zZZ ht
 have hge : ∀ b, c.Own b → c.P.globals.size ≤ b := fun b hb => by
  rcases hb with hb | ⟨_, hb⟩
  ·exact Nat.le_trans h.ex.1 hb
  ·exact hb
 refine { size := rfl, slots := fun k => trivial, mem := ?_, inj := ?_, boxNew := ?_, mps := ?_, tok := ?_, tokNew := ?_, below := BelowO.refl _, old := fun _ _ hs => hs, new := fun _ _ hs => .inl hs, live := h.live, glob := h.glob, ex := h.exact,
          fx := fun k hk => (by cases hk), obs := fun p hp => (by cases hp), keeps := fun p hp => (by cases hp), pins := ⟨fun p hp => ⟨Nat.zero_le _, fun b hb => ?_⟩, fun p hp => ⟨Nat.zero_le _, fun b hb => ?_⟩⟩ }
 ·intro s cs0 hs hnm
  obtain ⟨s', cs, e1, e2, ⟨e3, _⟩ | ⟨_, e4, e5⟩⟩ := g1 s cs0 hs
  ·rw [hnm] at e3; cases e3
  ·obtain ⟨b, vs, e, k1, k2, k3, k4, k6⟩ := h.mem s' cs e2 e4
   exact ⟨b, vs, e, by simp only [rho0, e1, Option.bind_some]; exact k1, .inr ⟨zQD e1 k1, hge b k2⟩, k3, Matches.sound k4 e5, k6⟩
 ·intro s s' b hb hb'
  simp only [rho0, Option.bind_eq_some_iff] at hb hb'
  obtain ⟨u, e1, e2⟩ := hb
  obtain ⟨u', e1', e2'⟩ := hb'
  obtain rfl := h.inj u u' b e2 e2'
  exact zZ2 hs2 (zyD e1) (zyD e1')
 ·intro s hs
  simp only [rho0, g2 s hs, Option.bind_none]
 ·refine { at' := ?_, inj := ?_, new := ?_, lt := ?_, apart := ?_ }
  ·intro s k e kvs hs
   obtain ⟨s', cs, e1, e2, ⟨_, rfl⟩ | ⟨e3, _⟩⟩ := g1 s _ hs
   ·obtain ⟨b, k1, k2, k3, k4⟩ := h.mps.at' s' k e kvs e2
    exact ⟨b, by simp only [rho0, e1, Option.bind_some]; exact k1, by simp only [rho0, e1, Option.bind_some]; exact k2, .inr ⟨zVH e1 k1, hge b k3⟩, k4⟩
   ·cases e3
  ·intro s s' b hb hb'
   simp only [rho0, Option.bind_eq_some_iff] at hb hb'
   obtain ⟨u, e1, e2⟩ := hb
   obtain ⟨u', e1', e2'⟩ := hb'
   obtain rfl := h.mps.inj u u' b e2 e2'
   exact zZ2 hs2 (zyD e1) (zyD e1')
  ·intro s hs
   simp only [rho0, g2 s hs, Option.bind_none]
  ·intro s b hb
   simp only [rho0, Option.bind_eq_some_iff] at hb
   obtain ⟨u, _, e2⟩ := hb
   exact h.mps.lt u b e2
  ·intro s b hb
   simp only [rho0, Option.bind_eq_some_iff] at hb
   obtain ⟨u, e1, e2⟩ := hb
   simp only [rho0, e1, Option.bind_some]
   exact h.mps.apart u b e2
 ·intro t hlive
  simp only at hlive
  rw [zxa] at hlive
  cases htu : getTM τ t with
  | none => rw [htu] at hlive; cases hlive
  | some u =>
   obtain ⟨x, k1, k2⟩ := h.tok u (t1 t u htu).1
   refine ⟨x, by simp only [rho0, htu, Option.bind_some]; exact k1, ?_⟩
   by_cases hfull : x.2.1 = x.2.2.1
   ·exact .inl hfull
   rcases k2 with k2 | ⟨b, q0, q1, q2, q3, q4, q5, q6, q7⟩
   ·exact .inl k2
   ·refine .inr ⟨b, q0, .inr ⟨zQE htu (by rw [k1, ← q0]) hfull, hge b q1⟩, q2, q3, q4, q5, fun s hsb => ?_, fun t' b' y hne ht' htok hy => ?_⟩
    ·simp only [rho0, Option.bind_eq_some_iff] at hsb
     obtain ⟨s', _, e2⟩ := hsb
     exact q6 s' e2
    ·simp only [rho0, Option.bind_eq_some_iff] at htok
     obtain ⟨u', e1, e2⟩ := htok
     refine q7 u' b' y (fun e => hne ?_) (t1 t' u' e1).1 e2 hy
     subst e
     exact t2 t' t u' e1 htu
 ·intro t hn
  simp only at hn
  rw [zxa] at hn
  cases htu : getTM τ t with
  | none => simp only [rho0, htu, Option.bind_none]
  | some u => rw [htu] at hn; cases hn
 ·obtain ⟨q, hq, e⟩ := List.mem_filterMap.1 hp
  rw [Option.map_eq_some_iff] at e
  obtain ⟨b0, e1, rfl⟩ := e
  simp only [rho0, zxz hs1 (show (q.1, q.2) ∈ σ from hq), Option.bind_some] at hb
  exact Option.some.inj (hb.symm.trans e1)
 ·obtain ⟨q, hq, e⟩ := List.mem_filterMap.1 hp
  rw [Option.map_eq_some_iff] at e
  obtain ⟨b0, e1, rfl⟩ := e
  simp only [rho0, zxz hs1 (show (q.1, q.2) ∈ σ from hq), Option.bind_some] at hb
  exact Option.some.inj (hb.symm.trans e1)
end Go.Abs
end
section
namespace Go.Abs
open Go.RowKit
variable {c : Ctx} {st : St} {tmps : Array Value} {w : World} {S : Safe} {ρ : Rho}
def invTM : TMap → Nat → Option Nat
 | [], _ => none
 | (t, u) :: l, i => if u = i then some t else invTM l i
theorem zqn : ∀ {σ : TMap} {s u : Nat}, invTM σ u = some s → (s, u) ∈ σ
 | (k, v) :: l, s, u, h => by
  simp only [invTM] at h
  split at h
  ·rename_i hk; subst hk; cases h; exact List.mem_cons_self
  ·exact List.mem_cons_of_mem _ (zqn h)
theorem zKS : ∀ {σ : TMap} {s u : Nat}, noTwice (σ.map (·.2)) = true → (s, u) ∈ σ → invTM σ u = some s
 | (k, v) :: l, s, u, hn, h => by
  obtain ⟨h1, h2⟩ := zjD (by simpa using hn)
  simp only [invTM]
  rcases List.mem_cons.1 h with e | h
  ·cases e; rw [if_pos rfl]
  ·rw [if_neg]
   ·exact zKS h2 h
   ·rintro rfl; exact h1 (List.mem_map.2 ⟨_, h, rfl⟩)
theorem zX1 {σ : TMap} {u : Nat} (h : invTM σ u = none) : ∀ s, (s, u) ∉ σ := by
 induction σ with
 | nil => intro s hs; cases hs
 | cons p l ih =>
  obtain ⟨k, v⟩ := p
  simp only [invTM] at h
  split at h
  ·cases h
  ·rename_i hk
   intro s hs
   rcases List.mem_cons.1 hs with e | hs
   ·cases e; exact hk rfl
   ·exact ih h s hs
theorem zJW : ∀ {τ : TMap} {tk : List (Nat × Bool)} {t u : Nat}, fresh1 tk τ → (t, u) ∈ τ → getT tk u = none
 | (k, v) :: l, tk, t, u, h, hm => by
  rcases List.mem_cons.1 hm with e | hm
  ·cases e; exact h.1
  ·exact zJW h.2 hm
theorem zw2 : ∀ (τ : TMap) (l : List (Nat × Bool)) (u : Nat), getT (newAll τ ++ l) u = if (invTM τ u).isSome then some true else getT l u
 | [], l, u => rfl
 | (k, v) :: r, l, u => by
  by_cases h : v = u
  ·simp [newAll, getT, invTM, h]
  ·simp [newAll, getT, invTM, h, zw2 r l u]
theorem zx9 : ∀ (τ : TMap) (l : List (Nat × Bool)) (u : Nat), getT (killAll τ ++ l) u = if (invTM τ u).isSome then some false else getT l u
 | [], l, u => rfl
 | (k, v) :: r, l, u => by
  by_cases h : v = u
  ·simp [killAll, getT, invTM, h]
  ·simp [killAll, getT, invTM, h, zx9 r l u]
theorem zJ7 : ∀ {m1 m0 : Mem} (s : Nat), m1.map (·.1) = m0.map (·.1) → m1.map (fun p => isMp p.2) = m0.map (fun p => isMp p.2) → (getM m1 s).map isMp = (getM m0 s).map isMp
 | [], [], s, _, _ => rfl
 | (k, a) :: m1, (k', b) :: m0, s, h, h' => by
  simp only [List.map_cons, List.cons.injEq] at h h'
  obtain ⟨rfl, h⟩ := h
  obtain ⟨e, h'⟩ := h'
  simp only [getM]
  by_cases hk : k = s
  ·rw [if_pos hk, if_pos hk]; simp [e]
  ·rw [if_neg hk, if_neg hk]; exact zJ7 s h h'
 | [], _ :: _, _, h, _ => by simp at h
 | _ :: _, [], _, h, _ => by simp at h
theorem zJl {σ τ : TMap} {m : Mem} {s' : Nat} {cs : List AV} : ∀ {m1 : Mem}, (∀ p ∈ m1, ∃ u, getTM σ p.1 = some u) → getM (renMem σ τ m1 ++ m) s' = some cs →
  (∃ s0 cs1, getTM σ s0 = some s' ∧ getM m1 s0 = some cs1 ∧ cs = cs1.map (AV.ren1 σ τ)) ∨ ((∀ s0, getTM σ s0 = some s' → getM m1 s0 = none) ∧ getM m s' = some cs)
 | [], _, h => .inr ⟨fun _ _ => rfl, h⟩
 | (k, ck) :: r, hn, h => by
  obtain ⟨u, hu⟩ := hn (k, ck) (by simp)
  simp only [renMem, List.cons_append, getM] at h
  rw [hu, Option.getD_some] at h
  by_cases he : u = s'
  ·rw [if_pos he] at h
   cases h
   exact .inl ⟨k, ck, he ▸ hu, by simp [getM], rfl⟩
  ·rw [if_neg he] at h
   rcases zJl (fun p hp => hn p (by simp [hp])) h with ⟨s0, cs1, e1, e2, e3⟩ | ⟨e1, e2⟩
   ·refine .inl ⟨s0, cs1, e1, ?_, e3⟩
    simp only [getM]
    rw [if_neg]
    ·exact e2
    ·intro hk
     rw [hk, e1] at hu
     exact he (Option.some.inj hu).symm
   ·refine .inr ⟨fun s0 hs0 => ?_, e2⟩
    simp only [getM]
    rw [if_neg]
    ·exact e1 s0 hs0
    ·intro hk
     rw [hk, hs0] at hu
     exact he (Option.some.inj hu).symm
theorem zWW {σ τ : TMap} {m : Mem} {s' : Nat} : ∀ {m1 : Mem}, getM (renMem σ τ m1 ++ m) s' = none → getM m s' = none
 | [], h => h
 | (k, ck) :: r, h => by
  simp only [renMem, List.cons_append, getM] at h
  split at h
  ·cases h
  ·exact zWW h
theorem RepA.ren0 {ρ1 ρ2 : Rho} {σ τ1 : TMap} (hb : ∀ s b, ρ1.box s = some b → ∃ s', getTM σ s = some s' ∧ ρ2.box s' = some b) (hm : ∀ s b, ρ1.mbox s = some b → ∃ s', getTM σ s = some s' ∧ ρ2.mbox s' = some b)
  (ht : ∀ t x, ρ1.tok t = some x → ∃ u, getTM τ1 t = some u ∧ ρ2.tok u = some x) {a : AV} {v : Value} (hk : keep0 a = true) (h : RepA w S ρ1 a v) : RepA w S ρ2 (a.ren0 σ τ1) v := by
 cases a with
 | d x => exact h
 | full es => exact h
 | own t sz es =>
  obtain ⟨h1, h2, base, n, cap, h3, h4⟩ := h
  obtain ⟨u, e1, e2⟩ := ht t _ h3
  simp only [AV.ren0, e1, Option.getD_some]
  exact ⟨h1, h2, base, n, cap, e2, h4⟩
 | ptr s off =>
  obtain ⟨b, h1, h2⟩ := h
  obtain ⟨u, e1, e2⟩ := hb s _ h1
  simp only [AV.ren0, e1, Option.getD_some]
  exact ⟨b, e2, h2⟩
 | mref s =>
  obtain ⟨b, h1, h2⟩ := h
  obtain ⟨u, e1, e2⟩ := hm s _ h1
  simp only [AV.ren0, e1, Option.getD_some]
  exact ⟨b, e2, h2⟩
 | vec s esz off n cap =>
  obtain ⟨k1, k2, b, h1, h2⟩ := h
  obtain ⟨u, e1, e2⟩ := hb s _ h1
  simp only [AV.ren0, e1, Option.getD_some]
  exact ⟨k1, k2, b, e2, h2⟩
 | mp k e kvs => exact h.elim
 | undef => trivial
 | _ => cases hk
theorem RepAs.ren0 {ρ1 ρ2 : Rho} {σ τ1 : TMap} (hb : ∀ s b, ρ1.box s = some b → ∃ s', getTM σ s = some s' ∧ ρ2.box s' = some b) (hm : ∀ s b, ρ1.mbox s = some b → ∃ s', getTM σ s = some s' ∧ ρ2.mbox s' = some b)
  (ht : ∀ t x, ρ1.tok t = some x → ∃ u, getTM τ1 t = some u ∧ ρ2.tok u = some x) : ∀ {as : List AV} {vs : List Value}, as.all keep0 = true → RepAs w S ρ1 as vs → RepAs w S ρ2 (as.map (AV.ren0 σ τ1)) vs
 | [], _, _, h => h
 | _ :: _, _, hk, ⟨v, r, e, h1, h2⟩ => by
  simp only [List.all_cons, Bool.and_eq_true] at hk
  exact ⟨v, r, e, RepA.ren0 hb hm ht hk.1 h1, RepAs.ren0 hb hm ht hk.2 h2⟩
theorem RepA.ren {ρ1 ρ2 : Rho} {σ τ1 : TMap} (hb : ∀ s b, ρ1.box s = some b → ∃ s', getTM σ s = some s' ∧ ρ2.box s' = some b) (hm : ∀ s b, ρ1.mbox s = some b → ∃ s', getTM σ s = some s' ∧ ρ2.mbox s' = some b)
  (ht : ∀ t x, ρ1.tok t = some x → ∃ u, getTM τ1 t = some u ∧ ρ2.tok u = some x) {a : AV} {v : Value} (hk : keep1 a = true) (h : RepA w S ρ1 a v) : RepA w S ρ2 (a.ren1 σ τ1) v := by
 cases a with
 | clo f cs =>
  obtain ⟨vs, h1, h2⟩ := h
  exact ⟨vs, h1, RepAs.ren0 hb hm ht hk h2⟩
 | _ => exact (RepA.ren0 hb hm ht (by exact hk) h : RepA w S ρ2 (AV.ren0 σ τ1 _) v)
theorem RepAs.ren {ρ1 ρ2 : Rho} {σ τ1 : TMap} (hb : ∀ s b, ρ1.box s = some b → ∃ s', getTM σ s = some s' ∧ ρ2.box s' = some b) (hm : ∀ s b, ρ1.mbox s = some b → ∃ s', getTM σ s = some s' ∧ ρ2.mbox s' = some b)
  (ht : ∀ t x, ρ1.tok t = some x → ∃ u, getTM τ1 t = some u ∧ ρ2.tok u = some x) : ∀ {as : List AV} {vs : List Value}, as.all keep1 = true → RepAs w S ρ1 as vs → RepAs w S ρ2 (as.map (AV.ren1 σ τ1)) vs
 | [], _, _, h => h
 | a :: as, _, hk, ⟨v, r, e, h1, h2⟩ => by
  simp only [List.all_cons, Bool.and_eq_true] at hk
  exact ⟨v, r, e, RepA.ren hb hm ht hk.1 h1, RepAs.ren hb hm ht hk.2 h2⟩
theorem yym : ∀ {m : Mem} {s : Nat} {cs : List AV}, getM m s = some cs → (s, cs) ∈ m
 | (k, v) :: l, s, cs, h => by
  simp only [getM] at h
  split at h
  ·rename_i hk; subst hk; cases h; exact List.mem_cons_self
  ·exact List.mem_cons_of_mem _ (yym h)
theorem getM_some {m : Mem} {p : Nat × List AV} (h : p ∈ m) : ∃ cs, getM m p.1 = some cs := by
 induction m with
 | nil => cases h
 | cons q m ih =>
  obtain ⟨k, v⟩ := q
  simp only [getM]
  by_cases hk : k = p.1
  ·exact ⟨v, by rw [if_pos hk]⟩
  ·rw [if_neg hk]
   rcases List.mem_cons.1 h with e | h
   ·subst e; exact absurd rfl hk
   ·exact ih h
theorem Sim.gotB (h : Sim c st tmps w S ρ) {σ τ τ1 : TMap} {m0 m1 : Mem} (hm : MatchMem st τ σ σ m0) (ht : mpOk st τ []) (hs1 : noTwice (σ.map (·.1)) = true) (hs2 : noTwice (σ.map (·.2)) = true) (hτ : noTwice (τ.map (·.1)) = true)
  (hn : m1.map (·.1) = m0.map (·.1)) (hkd : m1.map (fun p => isMp p.2) = m0.map (fun p => isMp p.2)) (hkp : ∀ p ∈ m1, p.2.all keep1 = true) (hfr : fresh1 st.tk τ1) (hτ1 : noTwice (τ1.map (·.1)) = true) (hτ2 : noTwice (τ1.map (·.2)) = true)
  {w' : World} {S' : Safe} {ρ1 : Rho} (h1 : Sim (ctxB c.P c.G w S (blocksOf ρ σ τ) (σ.filterMap fun p => (ρ.box p.2).map fun b => (p.1, b)) (σ.filterMap fun p => (ρ.mbox p.2).map fun b => (p.1, b)) (some (w, S))) ⟨[], m1, tkOf τ1⟩ #[] w' S' ρ1) :
  ∃ ρ2, (ρ.le ρ2 ∧ ∀ s b, ρ1.box s = some b → ∃ s', getTM σ s = some s' ∧ ρ2.box s' = some b) ∧ Sim c { st with mem := renMem σ τ1 m1 ++ st.mem, tk := newAll τ1 ++ (killAll τ ++ st.tk) } tmps w' S' ρ2 := by
 obtain ⟨g1, g2, g3⟩ := hm.get
 obtain ⟨t1, t2⟩ := zZZ ht
 have hkeep : Keeps w S w' S' := h1.keeps (w, S) rfl
 have cellsOf : ∀ s' b, ρ.box s' = some b → ∃ cs vs e, getM st.mem s' = some cs ∧ isMp cs = false ∧ c.Own b ∧ w.heap[b]? = some (.cells vs e (0, 0)) ∧ (∀ o, ¬ S b o) := fun s' b hb => by
  cases hs : getM st.mem s' with
  | none => rw [h.boxNew s' hs] at hb; cases hb
  | some cs =>
   obtain ⟨b', vs, e, k1, k2, k3, _, k6⟩ := h.mem s' cs hs (h.noMp hb hs)
   rw [hb] at k1; cases k1
   exact ⟨cs, vs, e, rfl, h.noMp hb hs, k2, k3, k6⟩
 have mapOf : ∀ s' b, ρ.mbox s' = some b → c.Own b ∧ ∃ es clock, w.heap[b]? = some (.map es clock) := fun s' b hb => by
  cases hs : getM st.mem s' with
  | none => rw [h.mps.new s' hs] at hb; cases hb
  | some cs =>
   cases hmp : isMp cs with
   | false =>
    obtain ⟨b', vs, e, k1, _⟩ := h.mem s' cs hs hmp
    rw [h.mps.apart s' b' k1] at hb; cases hb
   | true =>
    obtain ⟨k, e, kvs, rfl⟩ := zxd.1 hmp
    obtain ⟨b', k1, _, k3, k4⟩ := h.mps.at' s' k e kvs hs
    rw [hb] at k1; cases k1
    exact ⟨k3, k4.obj⟩
 have tokOf : ∀ u a n cap sz, getT st.tk u = some true → ρ.tok u = some (some a, n, cap, sz) → n ≠ cap → a = ⟨a.block, 0, none⟩ ∧ c.Own a.block ∧ (∃ cur e, w.heap[a.block]? = some (.cells cur e (0, 0))) ∧ (∀ s, ρ.box s ≠ some a.block) ∧
   ∀ t' b' y, t' ≠ u → getT st.tk t' = some true → ρ.tok t' = some (some ⟨b', 0, none⟩, y) → y.1 ≠ y.2.1 → b' ≠ a.block := fun u a n cap sz hu hx hne => by
  obtain ⟨x, k1, k2⟩ := h.tok u hu
  rw [hx] at k1; cases k1
  rcases k2 with k2 | ⟨b, q0, q1, ⟨cur, e, q2, _⟩, _, _, _, q6, q7⟩
  ·exact absurd k2 hne
  ·cases q0
   exact ⟨rfl, q1, ⟨cur, e, q2⟩, q6, q7⟩
 have hX : ∀ b ∈ blocksOf ρ σ τ, c.Own b ∧ b < w.heap.size := fun b hb => by
  rcases zx3 hτ hb with ⟨s, s', _, e⟩ | ⟨s, s', _, e⟩ | ⟨t, u, a, n, cap, sz, e1, e2, e3, rfl⟩
  ·obtain ⟨cs, vs, _, _, _, k2, k3, _⟩ := cellsOf s' b e
   exact ⟨k2, (Array.getElem?_eq_some_iff.1 k3).1⟩
  ·obtain ⟨k1, es, clock, k3⟩ := mapOf s' b e
   exact ⟨k1, (Array.getElem?_eq_some_iff.1 k3).1⟩
  ·obtain ⟨_, k1, ⟨cur, e, k3⟩, _⟩ := tokOf u a n cap sz (t1 t u e1).1 e2 e3
   exact ⟨k1, (Array.getElem?_eq_some_iff.1 k3).1⟩
 have own1 : ∀ b, (ctxB c.P c.G w S (blocksOf ρ σ τ) (σ.filterMap fun p => (ρ.box p.2).map fun b => (p.1, b)) (σ.filterMap fun p => (ρ.mbox p.2).map fun b => (p.1, b)) (some (w, S))).Own b → c.Own b ∧ (w.heap.size ≤ b ∨ b ∈ blocksOf ρ σ τ) := fun b hb => by
  rcases hb with hb | ⟨hb, _⟩
  ·exact ⟨.inl (Nat.le_trans h.below.size hb), .inl hb⟩
  ·exact ⟨(hX b hb).1, .inr hb⟩
 have nbox : ∀ s' b, ρ.box s' = some b → (∀ s, (s, s') ∉ σ) → b ∉ blocksOf ρ σ τ := fun s' b hb hno hm => by
  obtain ⟨cs, vs, e, _, _, _, k3, _⟩ := cellsOf s' b hb
  rcases zx3 hτ hm with ⟨s, s2, hs, e2⟩ | ⟨s, s2, hs, e2⟩ | ⟨t, u, a, n, cap, sz, e1, e2, e3, rfl⟩
  ·obtain rfl := h.inj s' s2 b hb e2
   exact hno s hs
  ·obtain ⟨_, es, clock, k4⟩ := mapOf s2 b e2
   rw [k3] at k4; cases k4
  ·obtain ⟨_, _, _, k4, _⟩ := tokOf u a n cap sz (t1 t u e1).1 e2 e3
   exact k4 s' hb
 have nmap : ∀ s' b, ρ.mbox s' = some b → (∀ s, (s, s') ∉ σ) → b ∉ blocksOf ρ σ τ := fun s' b hb hno hm => by
  obtain ⟨_, es, clock, k3⟩ := mapOf s' b hb
  rcases zx3 hτ hm with ⟨s, s2, hs, e2⟩ | ⟨s, s2, hs, e2⟩ | ⟨t, u, a, n, cap, sz, e1, e2, e3, rfl⟩
  ·obtain ⟨cs, vs, e, _, _, _, k4, _⟩ := cellsOf s2 b e2
   rw [k3] at k4; cases k4
  ·obtain rfl := h.mps.inj s' s2 b hb e2
   exact hno s hs
  ·obtain ⟨_, _, ⟨cur, e, k4⟩, _⟩ := tokOf u a n cap sz (t1 t u e1).1 e2 e3
   rw [k3] at k4; cases k4
 have ntok : ∀ u a n cap sz, getT st.tk u = some true → ρ.tok u = some (some a, n, cap, sz) → n ≠ cap → (∀ t, (t, u) ∉ τ) → a.block ∉ blocksOf ρ σ τ := fun u a n cap sz hu hx hne hno hm => by
  obtain ⟨ea, _, ⟨cur, e, k3⟩, k4, k5⟩ := tokOf u a n cap sz hu hx hne
  rcases zx3 hτ hm with ⟨s, s2, hs, e2⟩ | ⟨s, s2, hs, e2⟩ | ⟨t, u2, a2, n2, cap2, sz2, e1, e2, e3, e4⟩
  ·exact k4 s2 e2
  ·obtain ⟨_, es, clock, k6⟩ := mapOf s2 _ e2
   rw [k3] at k6; cases k6
  ·obtain ⟨ea2, _⟩ := tokOf u2 a2 n2 cap2 sz2 (t1 t u2 e1).1 e2 e3
   refine k5 u2 a2.block (n2, cap2, sz2) (fun e => hno t ?_) (t1 t u2 e1).1 (by rw [e2, ← ea2]) e3 e4
   rw [← e]; exact zyD e1
 have hblk : ∀ b x, w.heap[b]? = some x → b ∉ blocksOf ρ σ τ → w'.heap[b]? = some x := fun b x hx hno => by
  rw [h1.below.block b (fun ho => ?_)]
  ·exact hx
  ·rcases (own1 b ho).2 with h2 | h2
   ·have := (Array.getElem?_eq_some_iff.1 hx).1; omega
   ·exact hno h2
 have hnotS : ∀ b x o, w.heap[b]? = some x → b ∉ blocksOf ρ σ τ → ¬ S b o → ¬ S' b o := fun b x o hx hno hns hs => by
  rcases h1.new b o hs with h2 | h2
  ·exact hns h2
  ·rcases (own1 b h2).2 with h3 | h3
   ·have := (Array.getElem?_eq_some_iff.1 hx).1; omega
   ·exact hno h3
 have hkinds := fun s => zJ7 (m1 := m1) (m0 := m0) s hn hkd
 have hdom : ∀ s cs1, getM m1 s = some cs1 → ∃ s' cs, getTM σ s = some s' ∧ getM st.mem s' = some cs ∧ isMp cs = isMp cs1 ∧ (isMp cs1 = true → ∃ k e kvs, getM st.mem s' = some [.mp k e kvs]) := fun s cs1 hs => by
  have hk := hkinds s
  rw [hs] at hk
  cases h0 : getM m0 s with
  | none => rw [h0] at hk; simp at hk
  | some cs0 =>
   rw [h0] at hk
   simp only [Option.map_some, Option.some.injEq] at hk
   obtain ⟨s', cs, e1, e2, ⟨e3, rfl⟩ | ⟨e3, e4, _⟩⟩ := g1 s cs0 h0
   ·refine ⟨s', cs, e1, e2, hk.symm, fun _ => ?_⟩
    obtain ⟨k, e, kvs, rfl⟩ := zxd.1 e3
    exact ⟨k, e, kvs, e2⟩
   ·refine ⟨s', cs, e1, e2, by rw [e4, hk, e3], fun hh => ?_⟩
    rw [hk, e3] at hh; cases hh
 have hpinB : ∀ s b, ρ1.box s = some b → ∃ s', getTM σ s = some s' ∧ ρ.box s' = some b := fun s b hb => by
  cases hs : getM m1 s with
  | none => rw [h1.boxNew s hs] at hb; cases hb
  | some cs1 =>
   have hnm : isMp cs1 = false := h1.noMp hb hs
   obtain ⟨s', cs, e1, e2, e3, _⟩ := hdom s cs1 hs
   rw [hnm] at e3
   obtain ⟨b0, vs, e, k1, _⟩ := h.mem s' cs e2 e3
   have hp : (s, b0) ∈ σ.filterMap fun p => (ρ.box p.2).map fun b => (p.1, b) := List.mem_filterMap.2 ⟨(s, s'), zyD e1, by simp only [k1, Option.map_some]⟩
   have := (h1.pins.1 (s, b0) hp).2 b hb
   exact ⟨s', e1, by rw [k1, this]⟩
 have hpinM : ∀ s b, ρ1.mbox s = some b → ∃ s', getTM σ s = some s' ∧ ρ.mbox s' = some b := fun s b hb => by
  cases hs : getM m1 s with
  | none => rw [h1.mps.new s hs] at hb; cases hb
  | some cs1 =>
   have hnm : isMp cs1 = true := by
    cases hmp : isMp cs1 with
    | true => rfl
    | false =>
     obtain ⟨b', vs, e, k1, _⟩ := h1.mem s cs1 hs hmp
     rw [h1.mps.apart s b' k1] at hb; cases hb
   obtain ⟨s', cs, e1, e2, e3, e4⟩ := hdom s cs1 hs
   obtain ⟨k, e, kvs, e5⟩ := e4 hnm
   obtain ⟨b0, k1, _⟩ := h.mps.at' s' k e kvs e5
   have hp : (s, b0) ∈ σ.filterMap fun p => (ρ.mbox p.2).map fun b => (p.1, b) := List.mem_filterMap.2 ⟨(s, s'), zyD e1, by simp only [k1, Option.map_some]⟩
   have := (h1.pins.2 (s, b0) hp).2 b hb
   exact ⟨s', e1, by rw [k1, this]⟩
 have hfresh : ∀ t u, (t, u) ∈ τ1 → ρ.tok u = none := fun t u hu => h.tokNew u (zJW hfr hu)
 let ρ2 : Rho := { ρ with tok := fun u => match invTM τ1 u with | some t => ρ1.tok t | none => ρ.tok u }
 have hle : ρ.le ρ2 := by
  refine ⟨fun _ _ h => h, fun u x hx => ?_, fun _ _ h => h⟩
  show (match invTM τ1 u with | some t => ρ1.tok t | none => ρ.tok u) = some x
  cases hi : invTM τ1 u with
  | none => exact hx
  | some t => rw [hfresh t u (zqn hi)] at hx; cases hx
 have hnewTok : ∀ t x, ρ1.tok t = some x → ∃ u, getTM τ1 t = some u ∧ ρ2.tok u = some x := fun t x hx => by
  cases hg : getTM τ1 t with
  | none =>
   have := h1.tokNew t (by simp only; rw [zxa, hg]; rfl)
   rw [this] at hx; cases hx
  | some u =>
   refine ⟨u, rfl, ?_⟩
   show (match invTM τ1 u with | some t => ρ1.tok t | none => ρ.tok u) = some x
   rw [zKS hτ2 (zyD hg)]
   exact hx
 have oldTok : ∀ u, invTM τ1 u = none → ρ2.tok u = ρ.tok u := fun u hu => by
  show (match invTM τ1 u with | some t => ρ1.tok t | none => ρ.tok u) = ρ.tok u
  rw [hu]
 have newTok' : ∀ u t, invTM τ1 u = some t → ρ2.tok u = ρ1.tok t := fun u t hu => by
  show (match invTM τ1 u with | some t => ρ1.tok t | none => ρ.tok u) = ρ1.tok t
  rw [hu]
 have hnames : ∀ p ∈ m1, ∃ u, getTM σ p.1 = some u := fun p hp => by
  obtain ⟨cs, hcs⟩ := getM_some hp
  obtain ⟨s', _, e1, _⟩ := hdom p.1 cs hcs
  exact ⟨s', e1⟩
 have hpassed : ∀ s', (∀ s0, getTM σ s0 = some s' → getM m1 s0 = none) → ∀ s, (s, s') ∉ σ := fun s' hs s hmem => by
  have e1 := zxz hs1 hmem
  have e2 := hs s e1
  have hk := hkinds s
  rw [e2] at hk
  cases h0 : getM m0 s with
  | none => rw [g2 s h0] at e1; cases e1
  | some cs0 => rw [h0] at hk; simp at hk
 refine ⟨ρ2, ⟨hle, hpinB⟩, ?_⟩
 refine { size := h.size, slots := fun k => (h.slots k).keep hkeep hle, mem := ?_, inj := h.inj, boxNew := fun s hs => h.boxNew s (zWW hs), mps := ?_, tok := ?_, tokNew := ?_, below := ?_, old := fun b o hs => (hkeep b o (h.old b o hs)).1, new := ?_, live := h1.live, glob := fun g cs hg => RepCs.keep hkeep g 0 cs (h.glob g cs hg),
          fx := h.fx, ex := h.ex, obs := fun p hp => ⟨?_, (h.obs p hp).2⟩, keeps := fun p hp => (h.keeps p hp).trans hkeep, pins := h.pins }
 ·intro s' cs hs hnm
  rcases zJl hnames hs with ⟨s0, cs1, e1, e2, rfl⟩ | ⟨e1, e2⟩
  ·have hnm1 : isMp cs1 = false := by
     cases hmp : isMp cs1 with
     | false => rfl
     | true => obtain ⟨k, e, kvs, rfl⟩ := zxd.1 hmp; cases hnm
   obtain ⟨b, vs, e, k1, k2, k3, k4, k6⟩ := h1.mem s0 cs1 e2 hnm1
   obtain ⟨s2, q1, q2⟩ := hpinB s0 b k1
   rw [e1] at q1; cases q1
   exact ⟨b, vs, e, q2, (own1 b k2).1, k3, RepAs.ren (ρ2 := ρ2) hpinB hpinM hnewTok (hkp _ (yym e2)) k4, k6⟩
  ·obtain ⟨b, vs, e, k1, k2, k3, k4, k6⟩ := h.mem s' cs e2 hnm
   have hno := nbox s' b k1 (hpassed s' e1)
   exact ⟨b, vs, e, k1, k2, hblk _ _ k3 hno, RepAs.keep hkeep hle cs _ k4, fun o => hnotS b _ o k3 hno (k6 o)⟩
 ·refine { at' := ?_, inj := h.mps.inj, new := fun s hs => h.mps.new s (zWW hs), lt := fun s b hb => Nat.lt_of_lt_of_le (h.mps.lt s b hb) h1.below.size, apart := h.mps.apart }
  intro s' k e kvs hs
  rcases zJl hnames hs with ⟨s0, cs1, e1, e2, e3⟩ | ⟨e1, e2⟩
  ·have hc1 : cs1 = [.mp k e kvs] := by
     cases cs1 with
     | nil => cases e3
     | cons a r =>
      cases r with
      | cons b r => simp at e3
      | nil =>
       simp only [List.map_cons, List.map_nil, List.cons.injEq, and_true] at e3
       cases a <;> simp only [AV.ren1, AV.ren0, reduceCtorEq] at e3
       rw [e3]
   subst hc1
   obtain ⟨b, k1, k2, k3, k4⟩ := h1.mps.at' s0 k e kvs e2
   obtain ⟨s2, q1, q2⟩ := hpinM s0 b k1
   rw [e1] at q1; cases q1
   refine ⟨b, q2, ?_, (own1 b k3).1, k4⟩
   show ρ.box s' = none
   cases hbx : ρ.box s' with
   | none => rfl
   | some b' => rw [h.mps.apart s' b' hbx] at q2; cases q2
  ·obtain ⟨b, k1, k2, k3, k4⟩ := h.mps.at' s' k e kvs e2
   have hno := nmap s' b k1 (hpassed s' e1)
   obtain ⟨es, clock, k5⟩ := k4.obj
   exact ⟨b, k1, k2, k3, k4.to hkeep ((hblk b _ k5 hno).trans k5.symm)⟩
 ·intro u hu
  simp only at hu
  rw [zw2] at hu
  cases hi : invTM τ1 u with
  | some t =>
   have htm := zxz hτ1 (zqn hi)
   obtain ⟨x, k1, k2⟩ := h1.tok t (by simp only; rw [zxa, htm]; rfl)
   refine ⟨x, by rw [newTok' u t hi]; exact k1, ?_⟩
   by_cases hfull : x.2.1 = x.2.2.1
   ·exact .inl hfull
   rcases k2 with k2 | ⟨b, q0, q1, q2, q3, q4, q5, q6, q7⟩
   ·exact .inl k2
   ·refine .inr ⟨b, q0, (own1 b q1).1, q2, q3, q4, q5, fun s hsb => ?_, fun u' b' y hne hu' htok hy => ?_⟩
    ·by_cases hp : ∃ s0, (s0, s) ∈ σ
     ·obtain ⟨s0, hs0⟩ := hp
      obtain ⟨cs, vs, e, w1, w2, w3, w4, w5⟩ := cellsOf s b hsb
      have e1 := zxz hs1 hs0
      cases hm1 : getM m1 s0 with
      | none => exact hpassed s (fun s2 hs2' => by
        have : s2 = s0 := zZ2 hs2 (zyD hs2') hs0
        rw [this]; exact hm1) s0 hs0
      | some cs1 =>
       obtain ⟨s2, cs2, f1, f2, f3, _⟩ := hdom s0 cs1 hm1
       rw [e1] at f1; cases f1
       rw [w1] at f2; cases f2
       rw [w2] at f3
       obtain ⟨b2, vs2, e2', z1, _⟩ := h1.mem s0 cs1 hm1 f3.symm
       obtain ⟨s3, z2, z3⟩ := hpinB s0 b2 z1
       rw [e1] at z2; cases z2
       rw [hsb] at z3; cases z3
       exact q6 s0 z1
     ·have hno := nbox s b hsb (fun s0 hs0 => hp ⟨s0, hs0⟩)
      have hlt := h.yw4 hsb
      rcases (own1 b q1).2 with h2 | h2
      ·omega
      ·exact hno h2
    ·simp only at hu'
     rw [zw2] at hu'
     cases hi' : invTM τ1 u' with
     | some t' =>
      rw [newTok' u' t' hi'] at htok
      have htm' := zxz hτ1 (zqn hi')
      refine q7 t' b' y (fun e => hne ?_) (by simp only; rw [zxa, htm']; rfl) htok hy
      rw [e, htm] at htm'
      exact (Option.some.inj htm').symm
     | none =>
      rw [hi'] at hu'
      simp only [Option.isSome_none, Bool.false_eq_true, if_false] at hu'
      rw [zx9] at hu'
      cases hk : invTM τ u' with
      | some t' => rw [hk] at hu'; simp at hu'
      | none =>
       rw [hk] at hu'
       simp only [Option.isSome_none, Bool.false_eq_true, if_false] at hu'
       rw [oldTok u' hi'] at htok
       obtain ⟨n, cap, sz⟩ := y
       have hno := ntok u' ⟨b', 0, none⟩ n cap sz hu' htok hy (zX1 hk)
       have hlt := h.yki hu' htok hy
       intro e
       subst e
       rcases (own1 _ q1).2 with h2 | h2
       ·omega
       ·exact hno h2
  | none =>
   rw [hi] at hu
   simp only [Option.isSome_none, Bool.false_eq_true, if_false] at hu
   rw [zx9] at hu
   cases hk : invTM τ u with
   | some t => rw [hk] at hu; simp at hu
   | none =>
    rw [hk] at hu
    simp only [Option.isSome_none, Bool.false_eq_true, if_false] at hu
    obtain ⟨x, k1, k2⟩ := h.tok u hu
    refine ⟨x, by rw [oldTok u hi]; exact k1, ?_⟩
    by_cases hfull : x.2.1 = x.2.2.1
    ·exact .inl hfull
    rcases k2 with k2 | ⟨b, q0, q1, ⟨cur, e, q2, q2'⟩, q3, q4, q5, q6, q7⟩
    ·exact .inl k2
    ·obtain ⟨base, n, cap, sz⟩ := x
     simp only at q0
     subst q0
     have hno := ntok u ⟨b, 0, none⟩ n cap sz hu k1 hfull (zX1 hk)
     have hlt := (Array.getElem?_eq_some_iff.1 q2).1
     refine .inr ⟨b, rfl, q1, ⟨cur, e, hblk _ _ q2 hno, q2'⟩, q3, q4, fun o ho => hnotS b _ o q2 hno (q5 o ho), q6, fun u' b' y hne hu' htok hy => ?_⟩
     simp only at hu'
     rw [zw2] at hu'
     cases hi' : invTM τ1 u' with
     | some t' =>
      rw [newTok' u' t' hi'] at htok
      have htm' := zxz hτ1 (zqn hi')
      obtain ⟨x', j1, j2⟩ := h1.tok t' (by simp only; rw [zxa, htm']; rfl)
      rw [htok] at j1
      cases j1
      rcases j2 with j2 | ⟨b2, p0, p1, _⟩
      ·exact absurd j2 hy
      ·cases p0
       intro e
       subst e
       rcases (own1 _ p1).2 with h2 | h2
       ·omega
       ·exact hno h2
     | none =>
      rw [hi'] at hu'
      simp only [Option.isSome_none, Bool.false_eq_true, if_false] at hu'
      rw [zx9] at hu'
      cases hk' : invTM τ u' with
      | some t' => rw [hk'] at hu'; simp at hu'
      | none =>
       rw [hk'] at hu'
       simp only [Option.isSome_none, Bool.false_eq_true, if_false] at hu'
       rw [oldTok u' hi'] at htok
       exact q7 u' b' y hne hu' htok hy
 ·intro u hu
  simp only at hu
  rw [zw2] at hu
  cases hi : invTM τ1 u with
  | some t => rw [hi] at hu; simp at hu
  | none =>
   rw [hi] at hu
   simp only [Option.isSome_none, Bool.false_eq_true, if_false] at hu
   rw [zx9] at hu
   rw [oldTok u hi]
   cases hk : invTM τ u with
   | some t => rw [hk] at hu; simp at hu
   | none =>
    rw [hk] at hu
    simp only [Option.isSome_none, Bool.false_eq_true, if_false] at hu
    exact h.tokNew u hu
 ·refine ⟨h1.below.os.trans h.below.os, h1.below.tape.trans h.below.tape, h1.below.output.trans h.below.output, Nat.le_trans h.below.size h1.below.size, fun k hno => ?_⟩
  exact (h1.below.block k fun ho => hno (own1 k ho).1).trans (h.below.block k hno)
 ·intro b o hs
  rcases h1.new b o hs with h2 | h2
  ·exact h.new b o h2
  ·exact .inr (own1 b h2).1
 ·refine hblk _ _ (h.obs p hp).1 fun hm => ?_
  have h3 := h.obs p hp
  rcases zx3 hτ hm with ⟨s, s', _, e⟩ | ⟨s, s', _, e⟩ | ⟨t, u, a, n, cap, sz, e1, e2, e3, e4⟩
  ·obtain ⟨cs, vs, _, _, _, _, k3, _⟩ := cellsOf s' _ e
   rw [k3] at h3
   have h5 := h3.2
   rw [← Option.some.inj h3.1] at h5; cases h5
  ·obtain ⟨_, es, clock, k3⟩ := mapOf s' _ e
   rw [k3] at h3
   have h5 := h3.2
   rw [← Option.some.inj h3.1] at h5; cases h5
  ·obtain ⟨_, _, ⟨cur, e, k3⟩, _⟩ := tokOf u a n cap sz (t1 t u e1).1 e2 e3
   rw [e4] at k3
   rw [k3] at h3
   have h5 := h3.2
   rw [← Option.some.inj h3.1] at h5; cases h5
end Go.Abs
end
section
namespace Go.Abs
open Go.RowKit
variable {c : Ctx} {st : St} {tmps : Array Value} {w : World} {S : Safe} {ρ : Rho}
theorem yzp {as : List AV} {l : List Value} (h : RepAs w S ρ as l) (hne : as ≠ []) : ∃ v, l[0]? = some v ∧ RepA w S ρ (as.headD .undef) v := by
 cases as with
 | nil => exact absurd rfl hne
 | cons a as =>
  obtain ⟨v, r, rfl, h1, _⟩ := h
  exact ⟨v, rfl, h1⟩
theorem yvw (h : Sim c st tmps w S ρ) {o : Oper} {t : TypeId} {zs : List AV} {fs : List (Nat × Nat × Bool)} (ht : chkTy c.P t (.agg zs fs) = true) {x : Operand} {x' : X} {i : Nat} {fd : Nat × Nat × Bool} {ds : List Deferred}
  (ho : o.op = .field t x i) (hx : trX x = some x') (hfd : fs[i]? = some fd) (hg : gd st x' = true) {cs : List AV} (hs : ev st x' = .agg cs) (hob : fd.1 + fd.2.1 ≤ cs.length) :
  ∃ cv, (execOp (Act.eval ⟨tmps, ds⟩) o).run c.P w = .ok (.value cv) w ∧ RepA w S ρ (asOne fd.2.2 ((cs.drop fd.1).take fd.2.1)) cv := by
 have e1 := h.ev hx hg (ds := ds)
 rw [hs] at e1
 obtain ⟨vs, hv, hr⟩ := e1
 obtain ⟨fields, hu, hfo⟩ := zYc ht
 obtain ⟨f, ti, hf, hoff, hti, hsz, hnz, hna, hund⟩ := zvy hfo hfd
 have hf' : fields[i]? = some f := by simpa using hf
 have hag := zqC (P := c.P) w hna hund
 have hr2 := (hr.drop fd.1).take fd.2.1
 have hlen := RepAs.length hr
 have hlv : vs.size = cs.length := by simpa using hlen
 cases hb : fd.2.2 with
 | true =>
  rw [hb] at hag
  refine ⟨.agg (vs.extract fd.1 (fd.1 + fd.2.1)), ?_, ⟨_, rfl, ?_⟩⟩
  ·unfold execOp
   simp only [ho, hv]
   simp [Instr.field, run_underlying hu, hf', part, asAgg, hag, run_sizeOf hti, hsz, hoff]
  ·have : (vs.extract fd.1 (fd.1 + fd.2.1)).toList = (vs.toList.drop fd.1).take fd.2.1 := by
     rw [Array.toList_extract]; simp [List.extract]
   rw [this]; exact hr2
 | false =>
  rw [hb] at hag
  have hne : (cs.drop fd.1).take fd.2.1 ≠ [] := by
   intro e
   have := congrArg List.length e
   rw [List.length_take, List.length_drop, List.length_nil] at this
   rw [hsz] at hnz
   omega
  obtain ⟨v, h1, h2⟩ := yzp hr2 hne
  have hget : vs[fd.1]? = some v := by
   have : ((vs.toList.drop fd.1).take fd.2.1)[0]? = vs.toList[fd.1]? := by
    rw [List.getElem?_take, if_pos (by rw [hsz] at hnz; omega), List.getElem?_drop]; simp
   rw [this] at h1
   simpa using h1
  refine ⟨v, ?_, h2⟩
  unfold execOp
  simp only [ho, hv]
  simp [Instr.field, run_underlying hu, hf', part, asAgg, hag, hoff, hget]
theorem zKc {P : Program} {t : TypeId} {n esz : Nat} {eagg : Bool} {zs : List AV} (ht : chkTy P t (.arr n esz eagg zs) = true) : ∃ e ie, P.underlying t = some (.array n e) ∧ P.info? e = some ie ∧ ie.size = esz := by
 simp only [chkTy, Bool.and_eq_true] at ht
 obtain ⟨_, ht⟩ := ht
 split at ht
 ·rename_i m e i hu hi
  simp only [Bool.and_eq_true, beq_iff_eq] at ht
  obtain ⟨⟨⟨⟨⟨h0, h1⟩, h2⟩, h3⟩, h4⟩, h5⟩ := ht
  cases hie : P.info? e with
  | none => simp [hie] at h3
  | some ie =>
   simp only [hie, beq_iff_eq] at h3
   exact ⟨e, ie, by rw [hu, h0], hie, h3⟩
 ·cases ht
theorem trPartsA {esz : Nat} (h : Sim c st tmps w S ρ) {ds : List Deferred} : ∀ {ps : List (Nat × Operand)} {xs : List (Nat × Nat × X)},
  (ps.mapM fun p => do pure (p.1 * esz, esz, ← trX p.2)) = some xs → gdParts st xs = true →
  PartsOk w S ρ (fun i => some (i * esz, esz)) (evParts st xs) (ps.map fun p => (p.1, Act.eval ⟨tmps, ds⟩ p.2))
 | [], xs, hx, _ => by simp at hx; subst hx; rfl
 | (i, x) :: ps, xs, hx, hg => by
  simp only [List.mapM_cons, Option.bind_eq_bind, Option.bind_eq_some_iff, Option.pure_def, Option.some.injEq] at hx
  obtain ⟨a, ⟨x', hx', rfl⟩, as, has, rfl⟩ := hx
  simp only [gdParts, Bool.and_eq_true] at hg
  exact ⟨i, _, _, rfl, rfl, h.ev hx' hg.1, trPartsA h has hg.2⟩
theorem yyL (h : Sim c st tmps w S ρ) {o : Oper} {t : TypeId} {n esz : Nat} {eagg : Bool} {zs : List AV} (ht : chkTy c.P t (.arr n esz eagg zs) = true) {parts : Array (Nat × Operand)} {xs : List (Nat × Nat × X)} {ds : List Deferred}
  (ho : o.op = .build t parts) (hx : (parts.toList.mapM fun p => do pure (p.1 * esz, esz, ← trX p.2)) = some xs) (hg : gdParts st xs = true) {cs : List AV} (hr : fillA zs (evParts st xs) = some cs) :
  ∃ cv, (execOp (Act.eval ⟨tmps, ds⟩) o).run c.P w = .ok (.value cv) w ∧ RepA w S ρ (.agg cs) cv := by
 obtain ⟨e, ie, hu, hie, hes⟩ := zKc ht
 obtain ⟨i, z, hi, hz, hsz, _, _, hzs⟩ := zvl ht
 obtain ⟨cells', h1, h2⟩ := zWD (trPartsA h (ds := ds) hx hg) (zjj w S ρ hzs) hr
 refine ⟨.agg cells', ?_, ⟨_, rfl, h2⟩⟩
 unfold execOp
 simp only [ho]
 simp only [Instr.build, Sem.run_bind, zqD hi hz, run_underlying hu, Result.andThen_ok, run_sizeOf hie, hes]
 have hfill : Instr.fill (fun i => some (i * esz, esz)) z.cells (parts.map fun x => (x.1, Act.eval ⟨tmps, ds⟩ x.2)).toList = some cells' := by
  rw [← h1]
  congr 1
  exact Array.toList_map
 simp only [hfill]
 simp
theorem zWl {n esz d : Nat} {x : X} {y : Operand} {i : I} (h : trArr n esz d x y = some i) : ∃ kk k, y = .const (.int kk k) ∧ (0 ≤ k ∧ k < (n : Int)) ∧ i = .fa d (k.toNat * esz) x := by
 unfold trArr at h
 split at h
 ·split at h
  ·rename_i hk; cases h; exact ⟨_, _, rfl, hk, rfl⟩
  ·cases h
 ·cases h
theorem ok_ia (h : Sim c st tmps w S ρ) {o : Oper} {t : TypeId} {n esz : Nat} {eagg : Bool} {zs : List AV} (ht : chkTy c.P t (.arr n esz eagg zs) = true) {x : Operand} {x' : X} {kk : IntKind} {k : Int} {ds : List Deferred}
  (ho : o.op = .indexAddr t x (.const (.int kk k))) (hx : trX x = some x') (hk : 0 ≤ k ∧ k < n) (hg : gd st x' = true) {r : AV × Prop × Bool} (hr : opv c.G st (.fa 0 (k.toNat * esz) x') = some r) (hob : r.2.1) :
  ∃ cv, (execOp (Act.eval ⟨tmps, ds⟩) o).run c.P w = .ok (.value cv) w ∧ RepA w S ρ r.1 cv := by
 have e1 := h.ev hx hg (ds := ds)
 obtain ⟨e, ie, hu, hie, hes⟩ := zKc ht
 have run : ∀ b off, (Act.eval ⟨tmps, ds⟩ x) = .pointer (some ⟨b, off, none⟩) → (execOp (Act.eval ⟨tmps, ds⟩) o).run c.P w = .ok (.value (.pointer (some ⟨b, off + k.toNat * esz, none⟩))) w := by
  intro b off hv
  unfold execOp
  simp only [ho, hv]
  simp [Instr.indexAt, Act.eval, asIntOf, run_underlying hu, Instr.sureAddr, run_sizeOf hie, hes, addr_add, hk.1, hk.2]
 simp only [opv] at hr
 split at hr
 ·rename_i s off hev
  cases hr
  rw [hev] at e1
  obtain ⟨b, hb, hv⟩ := e1
  exact ⟨_, run b off hv, b, hb, rfl⟩
 ·rename_i cs hev
  cases hr
  rw [hev] at e1
  obtain ⟨b, off, hv, hcs⟩ := e1
  exact ⟨_, run b off hv, b, _, rfl, RepCs.drop _ hcs⟩
 ·rename_i g off hev
  cases hr
  rw [hev] at e1
  exact ⟨_, run g off e1, rfl⟩
 ·cases hr
theorem yyk {P : Program} {t : TypeId} {z x y : D} {a b : Value} (d : Nat) (hf : flatU P t z = true) (hx : likeD z x = true) (hy : likeD z y = true) (ha : Rep w S x a) (hb : Rep w S y b) : (Op.equalIn (d + 1) t a b).run P w = .ok (keyEq x y) w := by
 cases z <;> cases x <;> simp only [likeD, Bool.false_eq_true] at hx <;> cases y <;> simp only [likeD, Bool.false_eq_true] at hy
 ·
  simp only [flatU] at hf
  split at hf
  ·rename_i hu
   simp only [Rep] at ha hb
   subst ha hb
   exact run_equalIn_bool w d t _ _ hu
  ·cases hf
 ·simp only [flatU] at hf
  split at hf
  ·rename_i k' hu
   simp only [Rep] at ha hb
   subst ha hb
   have hx := eq_of_beq hx
   have hy := eq_of_beq hy
   subst hx hy
   rw [run_equalIn_int w d t _ k' _ _ hu]
   simp [keyEq]
  ·cases hf
 ·simp only [flatU] at hf
  split at hf
  ·rename_i hu
   obtain ⟨p, rfl, rfl, _⟩ := ha
   obtain ⟨q, rfl, rfl, _⟩ := hb
   rw [run_equalIn_string w d t p q hu, ByteArray.toList_eq, ByteArray.toList_eq]
   rfl
  ·cases hf
theorem zVX {P : Program} {t : TypeId} {z : D} (hf : flatU P t z = true) : notAgg P t = true ∧ (P.underlying t).isSome = true := by
 cases z <;> simp only [flatU, Bool.false_eq_true] at hf <;> (split at hf <;> simp_all [notAgg])
theorem zqx {P : Program} {t : TypeId} {z : D} (hf : flatU P t z = true) {vs : Array Value} {k : Nat} {v : Value} (hv : vs[k]? = some v) : (part t vs k).run P w = .ok v w := by
 obtain ⟨h1, h2⟩ := zVX hf
 have := zqC (P := P) w (ag := false) (by simpa using h1) h2
 simp [part, this, hv]
theorem zjA : ∀ {zs : List AV} {xs : List D}, likeDs zs xs = true → xs.length = zs.length
 | [], [], _ => rfl
 | [], _ :: _, h => by cases h
 | .d z :: zs, [], h => by cases h
 | .d z :: zs, x :: xs, h => by
  simp only [likeDs, Bool.and_eq_true] at h
  rw [List.length_cons, List.length_cons, zjA h.2]
theorem zKy {P : Program} (d : Nat) (va vb : Array Value) : ∀ (fs : List Field) (zs : List AV) (xs ys : List D) (k : Nat), eqFs P k fs zs = true → likeDs zs xs = true → likeDs zs ys = true → RepL w S xs (va.toList.drop k) → RepL w S ys (vb.toList.drop k) →
  (Op.eqFields (d + 1) va vb fs).run P w = .ok (eqDs xs ys) w
 | [], [], [], [], k, _, _, _, _, _ => by simp [Op.eqFields, eqDs]
 | f :: fs, .d z :: zs, x :: xs, y :: ys, k, hf, hx, hy, ha, hb => by
  simp only [eqFs, Bool.and_eq_true, bne_iff_ne, ne_eq, beq_iff_eq] at hf
  obtain ⟨⟨⟨f1, f2⟩, f3⟩, f4⟩ := hf
  simp only [likeDs, Bool.and_eq_true] at hx hy
  obtain ⟨v, r, e1, a1, a2⟩ := ha
  obtain ⟨u, q, e2, b1, b2⟩ := hb
  have g1 : va[k]? = some v := by
   have := congrArg (fun l : List Value => l[0]?) e1
   simpa [List.getElem?_drop] using this
  have g2 : vb[k]? = some u := by
   have := congrArg (fun l : List Value => l[0]?) e2
   simpa [List.getElem?_drop] using this
  have t1 : va.toList.drop (k + 1) = r := by
   rw [← List.drop_drop, e1]; rfl
  have t2 : vb.toList.drop (k + 1) = q := by
   rw [← List.drop_drop, e2]; rfl
  have ih := zKy d va vb fs zs xs ys (k + 1) f4 hx.2 hy.2 (by rw [t1]; exact a2) (by rw [t2]; exact b2)
  simp only [Op.eqFields, f1, ne_eq, not_false_eq_true, if_true, Sem.run_bind, f2, zqx f3 g1, zqx f3 g2, Result.andThen_ok, yyk d f3 hx.1 hy.1 a1 b1, eqDs]
  cases keyEq x y
  ·simp
  ·simpa using ih
 | [], [], _ :: _, _, _, _, h, _, _, _ => by cases h
 | [], [], [], _ :: _, _, _, _, h, _, _ => by cases h
 | [], _ :: _, _, _, _, h, _, _, _, _ => by cases h
 | _ :: _, [], _, _, _, h, _, _, _, _ => by cases h
 | f :: fs, z :: zs, [], ys, k, hf, hx, _, _, _ => by cases z <;> cases hx
 | f :: fs, z :: zs, x :: xs, [], k, hf, hx, hy, _, _ => by cases z <;> cases hy
theorem zJ6 {P : Program} (d : Nat) {e : TypeId} (he : P.cellsOf e = 1) (va vb : Array Value) : ∀ (zs : List AV) (xs ys : List D) (k : Nat), zs.all (flatUA P e) = true → likeDs zs xs = true → likeDs zs ys = true → RepL w S xs (va.toList.drop k) → RepL w S ys (vb.toList.drop k) →
  (Op.eqItems (d + 1) e (P.cellsOf e) va vb (List.range' k zs.length)).run P w = .ok (eqDs xs ys) w
 | [], [], [], k, _, _, _, _, _ => by simp [Op.eqItems, eqDs]
 | .d z :: zs, x :: xs, y :: ys, k, hf, hx, hy, ha, hb => by
  simp only [List.all_cons, Bool.and_eq_true, flatUA] at hf
  obtain ⟨f3, f4⟩ := hf
  simp only [likeDs, Bool.and_eq_true] at hx hy
  obtain ⟨v, r, e1, a1, a2⟩ := ha
  obtain ⟨u, q, e2, b1, b2⟩ := hb
  have g1 : va[k]? = some v := by
   have := congrArg (fun l : List Value => l[0]?) e1
   simpa [List.getElem?_drop] using this
  have g2 : vb[k]? = some u := by
   have := congrArg (fun l : List Value => l[0]?) e2
   simpa [List.getElem?_drop] using this
  have t1 : va.toList.drop (k + 1) = r := by
   rw [← List.drop_drop, e1]; rfl
  have t2 : vb.toList.drop (k + 1) = q := by
   rw [← List.drop_drop, e2]; rfl
  have ih := zJ6 d he va vb zs xs ys (k + 1) (by simpa [flatUA] using f4) hx.2 hy.2 (by rw [t1]; exact a2) (by rw [t2]; exact b2)
  rw [he] at ih ⊢
  simp only [List.length_cons, List.range'_succ, Op.eqItems, Sem.run_bind, Nat.mul_one, zqx f3 g1, zqx f3 g2, Result.andThen_ok, yyk d f3 hx.1 hy.1 a1 b1, eqDs]
  cases keyEq x y
  ·simp
  ·simpa using ih
 | [], _ :: _, _, _, _, h, _, _, _ => by cases h
 | [], [], _ :: _, _, _, _, h, _, _ => by cases h
 | z :: zs, [], ys, k, hf, hx, _, _, _ => by cases z <;> cases hx
 | z :: zs, x :: xs, [], k, hf, hx, hy, _, _ => by cases z <;> cases hy
theorem yxW {P : Program} {T : Nat → Option Ty} (hT : ∀ t ty, T t = some ty → chkTy P t ty = true) {t : TypeId} (hf : isFlatT (T t) = true) : eqOk P t (zsT (T t)) = true := by
 unfold isFlatT at hf
 split at hf
 ·rename_i zs fs hty
  have h := hT _ _ hty
  simp only [chkTy, Bool.and_eq_true] at h
  have h1 := h.1
  rw [show isFlatT (some (.agg zs fs)) = true from hf, hty] at *
  simpa [zsT] using h1
 ·rename_i n esz eagg zs hty
  have h := hT _ _ hty
  simp only [chkTy, Bool.and_eq_true] at h
  have h1 := h.1
  rw [show isFlatT (some (.arr n esz eagg zs)) = true from hf, hty] at *
  simpa [zsT] using h1
 ·cases hf
theorem yvn (h : Sim c st tmps w S ρ) {o : Oper} {op : BinOp} {t t' : TypeId} {zs : List AV} (hq : eqOk c.P t zs = true) {x y : Operand} {x' y' : X} {ds : List Deferred} (ho : o.op = .binOp op t x y t') (he : isEq op = true) (hx : trX x = some x') (hy : trX y = some y')
  (hg : gd st x' = true) (hg2 : gd st y' = true) {a b : List AV} {xs ys : List D} (hp : ev st x' = .agg a) (hp2 : ev st y' = .agg b) (ha : toDs [] 1 a = some xs) (hb : toDs [] 1 b = some ys) (hl : likeDs zs xs = true ∧ likeDs zs ys = true) :
  ∃ cv, (execOp (Act.eval ⟨tmps, ds⟩) o).run c.P w = .ok (.value cv) w ∧ RepA w S ρ (.d (.bool (if op == .neq then !eqDs xs ys else eqDs xs ys))) cv := by
 have e1 := h.ev hx hg (ds := ds)
 have e2 := h.ev hy hg2 (ds := ds)
 rw [hp] at e1
 rw [hp2] at e2
 obtain ⟨va, hva, ra⟩ := e1
 obtain ⟨vb, hvb, rb⟩ := e2
 have la : RepL w S xs va.toList := zkw zyv 1 ra ha
 have lb : RepL w S ys vb.toList := zkw zyv 1 rb hb
 simp only [eqOk, Bool.and_eq_true] at hq
 obtain ⟨hguard, hq⟩ := hq
 have hguard : c.P.eqGuardType c.P.depth t = false := by simpa using hguard
 have heq : (Op.equalIn 10000 t (.agg va) (.agg vb)).run c.P w = .ok (eqDs xs ys) w := by
  split at hq
  ·rename_i fields hu
   simp only [Bool.and_eq_true] at hq
   have hfo : c.P.fieldsOf t = fields := by unfold Program.fieldsOf; rw [hu]
   rw [show (10000 : Nat) = 9999 + 1 from rfl, run_equalIn_struct w 9999 t va vb (by rw [hfo]; exact hu) (by simpa using hq.1), hfo]
   exact zKy 9998 va vb _ _ _ _ 0 hq.2 hl.1 hl.2 (by simpa using la) (by simpa using lb)
  ·rename_i m e hu
   simp only [Bool.and_eq_true] at hq
   obtain ⟨⟨⟨q1, q2⟩, q3⟩, q4⟩ := hq
   obtain ⟨ie, hie⟩ := Option.isSome_iff_exists.1 q3
   have hm : zs.length = m := by simpa using q1
   rw [show (10000 : Nat) = 9999 + 1 from rfl, run_equalIn_array w 9999 va vb hu hie, ← hm, List.range_eq_range']
   cases zs with
   | nil =>
    have h1 := zjA hl.1
    have h2 := zjA hl.2
    have : xs = [] := List.eq_nil_of_length_eq_zero h1
    subst this
    have : ys = [] := List.eq_nil_of_length_eq_zero h2
    subst this
    simp [Op.eqItems, eqDs]
   | cons z zs =>
    have he1 : c.P.cellsOf e = 1 := by simpa using q4
    exact zJ6 9998 he1 va vb _ _ _ 0 q2 hl.1 hl.2 (by simpa using la) (by simpa using lb)
  ·cases hq
 refine ⟨_, ?_, rfl⟩
 unfold execOp
 simp only [ho]
 refine run_v (v := _) (w' := w) ?_
 rw [hva, hvb]
 have hgr := run_eqGuard_agg w op t x y va vb hguard
 cases op <;> simp [isEq] at he <;> simp [hgr, run_eql_struct, run_neq_struct, heq]
theorem Sim.closeB (h : Sim c st tmps w S ρ) : ∃ S', (∀ b o, S b o → S' b o) ∧ (∀ b o, S' b o → S b o ∨ (c.Own b ∧ ∃ s, ρ.box s = some b)) ∧ Live w S' ∧ (∀ (a : AV) (v : Value), RepA w S ρ a v → RepA w S' ρ a v) ∧ Through w S' ρ st.mem := by
 have hk : Keeps w S w (fun b o => S b o ∨ ∃ s cs vs e, getM st.mem s = some cs ∧ ρ.box s = some b ∧ w.heap[b]? = some (.cells vs e (0, 0)) ∧ c.Own b ∧ o < vs.size) := fun b o hs => ⟨.inl hs, rfl⟩
 refine ⟨fun b o => S b o ∨ ∃ s cs vs e, getM st.mem s = some cs ∧ ρ.box s = some b ∧ w.heap[b]? = some (.cells vs e (0, 0)) ∧ c.Own b ∧ o < vs.size, fun b o hs => .inl hs, ?_, ?_, fun a v hr => RepA.keep hk ρ.le_refl a v hr, ?_⟩
 ·rintro b o (hs | ⟨s, cs, vs, e, _, h2, _, hb, _⟩)
  ·exact .inl hs
  ·exact .inr ⟨hb, s, h2⟩
 ·rintro b o (hs | ⟨s, cs, vs, e, _, _, hh, _, ho⟩)
  ·exact h.live b o hs
  ·exact ⟨vs[o], by rw [zzi hh]; simp [ho]⟩
 ·intro s cs hs hnm
  obtain ⟨b, vs, e, g1, g2, g3, g4, g6⟩ := h.mem s cs hs hnm
  refine ⟨b, vs.toList, g1, RepAs.keep hk ρ.le_refl cs _ g4, fun j v hj => ?_⟩
  have hj' : vs[j]? = some v := by simpa using hj
  refine ⟨by rw [zzi g3]; exact hj', .inr ⟨s, cs, vs, e, hs, g1, g3, g2, (Array.getElem?_eq_some_iff.1 hj').1⟩⟩
theorem Sim.close (h : Sim c st tmps w S ρ) : ∃ S', (∀ b o, S b o → S' b o) ∧ (∀ b o, S' b o → S b o ∨ c.Own b) ∧ Live w S' ∧ (∀ (a : AV) (v : Value), RepA w S ρ a v → RepA w S' ρ a v) ∧ Through w S' ρ st.mem := by
 obtain ⟨S', h1, h2, h3, h4, h5⟩ := h.closeB
 exact ⟨S', h1, fun b o hs => (h2 b o hs).imp id fun e => e.1, h3, h4, h5⟩
def Rho.noBox (ρ : Rho) : Rho := { box := fun _ => none, mbox := fun _ => none, tok := ρ.tok }
mutual
theorem RepA.noBox : ∀ (a : AV) (v : Value), a.boxed = false → RepA w S ρ a v → RepA w S ρ.noBox a v
 | .undef, _, _, _ => trivial
 | .d _, _, _, h => h
 | .full _, _, _, h => h
 | .own _ _ _, _, _, h => h
 | .agg cs, _, hb, ⟨vs, h1, h2⟩ => ⟨vs, h1, RepAs.noBox cs _ (by simpa only [AV.boxed] using hb) h2⟩
 | .tup cs, _, hb, ⟨vs, h1, h2⟩ => ⟨vs, h1, RepAs.noBox cs _ (by simpa only [AV.boxed] using hb) h2⟩
 | .cond _ a, _, hb, ⟨h1, h2⟩ => ⟨fun hg => RepA.noBox a _ (by simpa only [AV.boxed] using hb) (h1 hg), h2⟩
 | .ptr _ _, _, hb, _ => by simp [AV.boxed] at hb
 | .vec _ _ _ _ _, _, hb, _ => by simp [AV.boxed] at hb
 | .zsl _, _, hb, _ => by simp [AV.boxed] at hb
 | .pnd _ _ _, _, hb, _ => by simp [AV.boxed] at hb
 | .eptr _ _, _, hb, _ => by simp [AV.boxed] at hb
 | .clo _ _, _, hb, _ => by simp [AV.boxed] at hb
 | .mref _, _, hb, _ => by simp [AV.boxed] at hb
 | .mp _ _ _, _, _, h => h.elim
theorem RepAs.noBox : ∀ (as : List AV) (vs : List Value), AV.boxeds as = false → RepAs w S ρ as vs → RepAs w S ρ.noBox as vs
 | [], _, _, h => h
 | a :: as, _, hb, ⟨v, r, h, h1, h2⟩ => by
  simp only [AV.boxeds, Bool.or_eq_false_iff] at hb
  exact ⟨v, r, h, RepA.noBox a v hb.1 h1, RepAs.noBox as r hb.2 h2⟩
end
theorem zXV (k : Nat) : ∀ l : List (Nat × AV), getS (dropB l) k = if (getS l k).boxed = true then .undef else getS l k
 | [] => by simp [dropB, getS, AV.boxed]
 | (j, v) :: l => by
  simp only [dropB, getS]
  by_cases hj : j = k
  ·simp only [hj, if_true]
  ·simp only [if_neg hj]; exact zXV k l
theorem Sim.noBox (h : Sim c st tmps w S ρ) {S' : Safe} (h1 : ∀ b o, S b o → S' b o) (h2 : ∀ b o, S' b o → S b o ∨ (c.Own b ∧ ∃ s, ρ.box s = some b)) (h3 : Live w S') : Sim c st.noBox tmps w S' ρ.noBox := by
 have hk : Keeps w S w S' := fun b o hs => ⟨h1 b o hs, rfl⟩
 refine { size := h.size, slots := fun k => ?_, mem := fun s cs hs => (by simp [St.noBox, getM] at hs), inj := fun s s' b hs => (by cases hs), boxNew := fun _ _ => rfl, mps := { at' := fun s k e kvs hs => (by simp [St.noBox, getM] at hs), inj := fun s s' b hs => (by cases hs), new := fun _ _ => rfl, lt := fun s b hs => (by cases hs), apart := fun s b hs => (by cases hs) },
          tok := fun t ht => ?_, tokNew := h.tokNew, below := h.below, old := fun b o hs => h1 b o (h.old b o hs), new := fun b o hs => (h2 b o hs).elim (h.new b o) fun e => .inr e.1, live := h3, glob := fun g cs hg => RepCs.keep hk g 0 cs (h.glob g cs hg), fx := h.fx, ex := h.ex, obs := h.obs, keeps := fun p hp => (h.keeps p hp).trans hk,
          pins := h.pins.sub (fun s b e => by cases e) (fun s b e => by cases e) }
 ·show RepA w S' ρ.noBox (getS (dropB st.slots) k) _
  rw [zXV]
  split
  ·trivial
  ·rename_i hb
   exact RepA.noBox _ _ (by simpa using hb) ((h.slots k).keep hk ρ.le_refl)
 ·obtain ⟨x, g1, g2⟩ := h.tok t ht
  refine ⟨x, g1, ?_⟩
  rcases g2 with g2 | ⟨b, k0, k1, k2, k3, k4, k5, k6, k7⟩
  ·exact .inl g2
  ·refine .inr ⟨b, k0, k1, k2, k3, k4, fun o ho hs => ?_, fun s e => (by cases e), k7⟩
   rcases h2 b o hs with e | ⟨_, s, e⟩
   ·exact k5 o ho e
   ·exact k6 s e
theorem zkO (B : List Nat) (s : Nat) : ∀ m : Mem, getM (memOut B m) s = if B.contains s = true then none else getM m s
 | [] => by simp [memOut, getM]
 | (k, cs) :: m => by
  rw [memOut]
  by_cases hk : B.contains k = true
  ·rw [if_pos hk, zkO B s m]
   by_cases hs : k = s
   ·subst hs; rw [if_pos hk, if_pos hk]
   ·simp only [getM, if_neg hs]
  ·rw [if_neg hk]
   simp only [getM]
   by_cases hs : k = s
   ·subst hs; rw [if_pos rfl, if_neg hk, if_pos rfl]
   ·rw [if_neg hs, if_neg hs, zkO B s m]
theorem zWF (B : List Nat) (s : Nat) : ∀ m : Mem, getM (memIn B m) s = if B.contains s = true then getM m s else none
 | [] => by simp [memIn, getM]
 | (k, cs) :: m => by
  rw [memIn]
  by_cases hk : B.contains k = true
  ·rw [if_pos hk]
   simp only [getM]
   by_cases hs : k = s
   ·subst hs; rw [if_pos rfl, if_pos hk, if_pos rfl]
   ·rw [if_neg hs, if_neg hs, zWF B s m]
  ·rw [if_neg hk, zWF B s m]
   by_cases hs : k = s
   ·subst hs; rw [if_neg hk, if_neg hk]
   ·simp only [getM, if_neg hs]
theorem zWd {B : List Nat} {s : Nat} {cs : List AV} : ∀ {m : Mem}, okDrop B m = true → getM m s = some cs → AV.namesL B cs = false
 | [], _, h => by simp [getM] at h
 | (k, x) :: m, h1, h => by
  simp only [okDrop, Bool.and_eq_true, Bool.not_eq_true'] at h1
  simp only [getM] at h
  split at h
  ·cases h; exact h1.1
  ·exact zWd h1.2 h
def Rho.out (B : List Nat) (ρ : Rho) : Rho := { box := fun s => if B.contains s = true then none else ρ.box s, mbox := fun s => if B.contains s = true then none else ρ.mbox s, tok := ρ.tok }
theorem Rho.zYT {B : List Nat} {ρ : Rho} {s b : Nat} (h : (ρ.out B).box s = some b) : ρ.box s = some b ∧ B.contains s = false := by
 unfold Rho.out at h
 simp only at h
 split at h
 ·cases h
 ·rename_i hb; exact ⟨h, by simpa using hb⟩
theorem Rho.zZ1 {B : List Nat} {ρ : Rho} {s b : Nat} (h : (ρ.out B).mbox s = some b) : ρ.mbox s = some b ∧ B.contains s = false := by
 unfold Rho.out at h
 simp only at h
 split at h
 ·cases h
 ·rename_i hb; exact ⟨h, by simpa using hb⟩
theorem Rho.zKP {B : List Nat} {ρ : Rho} {s : Nat} (h : B.contains s = false) : (ρ.out B).box s = ρ.box s := by simp only [Rho.out, h]; rfl
theorem Rho.zWH {B : List Nat} {ρ : Rho} {s : Nat} (h : B.contains s = false) : (ρ.out B).mbox s = ρ.mbox s := by simp only [Rho.out, h]; rfl
mutual
theorem RepA.out {B : List Nat} : ∀ (a : AV) (v : Value), a.namesIn B = false → RepA w S ρ a v → RepA w S (ρ.out B) a v
 | .undef, _, _, _ => trivial
 | .d _, _, _, h => h
 | .full _, _, _, h => h
 | .own _ _ _, _, _, h => h
 | .agg cs, _, hb, ⟨vs, h1, h2⟩ => ⟨vs, h1, RepAs.out cs _ (by simpa only [AV.namesIn] using hb) h2⟩
 | .tup cs, _, hb, ⟨vs, h1, h2⟩ => ⟨vs, h1, RepAs.out cs _ (by simpa only [AV.namesIn] using hb) h2⟩
 | .cond _ a, _, hb, ⟨h1, h2⟩ => ⟨fun hg => RepA.out a _ (by simpa only [AV.namesIn] using hb) (h1 hg), h2⟩
 | .clo _ cs, _, hb, ⟨vs, h1, h2⟩ => ⟨vs, h1, RepAs.out cs _ (by simpa only [AV.namesIn] using hb) h2⟩
 | .ptr s _, _, hb, ⟨b, h1, h2⟩ => ⟨b, by rw [Rho.zKP (by simpa only [AV.namesIn] using hb)]; exact h1, h2⟩
 | .vec s _ _ _ _, _, hb, ⟨g1, g2, b, h1, h2⟩ => ⟨g1, g2, b, by rw [Rho.zKP (by simpa only [AV.namesIn] using hb)]; exact h1, h2⟩
 | .mref s, _, hb, ⟨b, h1, h2⟩ => ⟨b, by rw [Rho.zWH (by simpa only [AV.namesIn] using hb)]; exact h1, h2⟩
 | .zsl _, _, _, h => h
 | .pnd _ _ _, _, _, h => h
 | .eptr _ _, _, _, h => h
 | .mp _ _ _, _, _, h => h.elim
theorem RepAs.out {B : List Nat} : ∀ (as : List AV) (vs : List Value), AV.namesL B as = false → RepAs w S ρ as vs → RepAs w S (ρ.out B) as vs
 | [], _, _, h => h
 | a :: as, _, hb, ⟨v, r, h, h1, h2⟩ => by
  simp only [AV.namesL, Bool.or_eq_false_iff] at hb
  exact ⟨v, r, h, RepA.out a v hb.1 h1, RepAs.out as r hb.2 h2⟩
end
theorem zjz (B : List Nat) (k : Nat) : ∀ l : List (Nat × AV), getS (dropIn B l) k = if (getS l k).namesIn B = true then .undef else getS l k
 | [] => by simp [dropIn, getS, AV.namesIn]
 | (j, v) :: l => by
  simp only [dropIn, getS]
  by_cases hj : j = k
  ·simp only [hj, if_true]
  ·simp only [if_neg hj]; exact zjz B k l
theorem Sim.closeIn (h : Sim c st tmps w S ρ) (B : List Nat) : ∃ S', (∀ b o, S b o → S' b o) ∧ (∀ b o, S' b o → S b o ∨ (c.Own b ∧ ∃ s, B.contains s = true ∧ ρ.box s = some b)) ∧ Live w S' ∧ (∀ (a : AV) (v : Value), RepA w S ρ a v → RepA w S' ρ a v) ∧ Through w S' ρ (memIn B st.mem) := by
 have hk : Keeps w S w (fun b o => S b o ∨ ∃ s cs vs e, B.contains s = true ∧ getM st.mem s = some cs ∧ ρ.box s = some b ∧ w.heap[b]? = some (.cells vs e (0, 0)) ∧ c.Own b ∧ o < vs.size) := fun b o hs => ⟨.inl hs, rfl⟩
 refine ⟨fun b o => S b o ∨ ∃ s cs vs e, B.contains s = true ∧ getM st.mem s = some cs ∧ ρ.box s = some b ∧ w.heap[b]? = some (.cells vs e (0, 0)) ∧ c.Own b ∧ o < vs.size, fun b o hs => .inl hs, ?_, ?_, fun a v hr => RepA.keep hk ρ.le_refl a v hr, ?_⟩
 ·rintro b o (hs | ⟨s, cs, vs, e, h0, _, h2, _, hb, _⟩)
  ·exact .inl hs
  ·exact .inr ⟨hb, s, h0, h2⟩
 ·rintro b o (hs | ⟨s, cs, vs, e, _, _, _, hh, _, ho⟩)
  ·exact h.live b o hs
  ·exact ⟨vs[o], by rw [zzi hh]; simp [ho]⟩
 ·intro s cs hs hnm
  rw [zWF] at hs
  split at hs
  ·rename_i hB
   obtain ⟨b, vs, e, g1, g2, g3, g4, g6⟩ := h.mem s cs hs hnm
   refine ⟨b, vs.toList, g1, RepAs.keep hk ρ.le_refl cs _ g4, fun j v hj => ?_⟩
   have hj' : vs[j]? = some v := by simpa using hj
   refine ⟨by rw [zzi g3]; exact hj', .inr ⟨s, cs, vs, e, hB, hs, g1, g3, g2, (Array.getElem?_eq_some_iff.1 hj').1⟩⟩
  ·cases hs
theorem Sim.someBox (h : Sim c st tmps w S ρ) {B : List Nat} (hd : okDrop B (memOut B st.mem) = true) {S' : Safe} (h1 : ∀ b o, S b o → S' b o) (h2 : ∀ b o, S' b o → S b o ∨ (c.Own b ∧ ∃ s, B.contains s = true ∧ ρ.box s = some b)) (h3 : Live w S') : Sim c (st.someBox B) tmps w S' (ρ.out B) := by
 have hk : Keeps w S w S' := fun b o hs => ⟨h1 b o hs, rfl⟩
 have hout : ∀ s, B.contains s = true → (ρ.out B).box s = none ∧ (ρ.out B).mbox s = none := fun s hs => by simp only [Rho.out, hs, if_true, and_self]
 refine { size := h.size, slots := fun k => ?_, mem := fun s cs hs hnm => ?_, inj := fun s s' b hs hs' => h.inj s s' b (Rho.zYT hs).1 (Rho.zYT hs').1, boxNew := fun s hs => ?_,
          mps := { at' := fun s k e kvs hs => ?_, inj := fun s s' b hs hs' => h.mps.inj s s' b (Rho.zZ1 hs).1 (Rho.zZ1 hs').1, new := fun s hs => ?_, lt := fun s b hs => h.mps.lt s b (Rho.zZ1 hs).1, apart := fun s b hs => ?_ },
          tok := fun t ht => ?_, tokNew := h.tokNew, below := h.below, old := fun b o hs => h1 b o (h.old b o hs), new := fun b o hs => (h2 b o hs).elim (h.new b o) fun e => .inr e.1, live := h3, glob := fun g cs hg => RepCs.keep hk g 0 cs (h.glob g cs hg), fx := h.fx, ex := h.ex, obs := h.obs, keeps := fun p hp => (h.keeps p hp).trans hk,
          pins := h.pins.sub (fun s b e => .inr (Rho.zYT e).1) (fun s b e => .inr (Rho.zZ1 e).1) }
 ·show RepA w S' (ρ.out B) (getS (dropIn B st.slots) k) _
  rw [zjz]
  split
  ·trivial
  ·rename_i hb
   exact RepA.out _ _ (by simpa using hb) ((h.slots k).keep hk ρ.le_refl)
 ·have hs' : getM (memOut B st.mem) s = some cs := hs
  have hnn := zWd hd hs'
  rw [zkO] at hs'
  split at hs'
  ·cases hs'
  ·rename_i hB
   have hB : B.contains s = false := by simpa using hB
   obtain ⟨b, vs, e, g1, g2, g3, g4, g6⟩ := h.mem s cs hs' hnm
   refine ⟨b, vs, e, by rw [Rho.zKP hB]; exact g1, g2, g3, RepAs.out _ _ hnn (RepAs.keep hk ρ.le_refl cs _ g4), fun o ho => ?_⟩
   rcases h2 b o ho with hs2 | ⟨_, s2, hb2, hr2⟩
   ·exact g6 o hs2
   ·have := h.inj s2 s b hr2 g1
    subst this
    rw [hB] at hb2; cases hb2
 ·have hs' : getM (memOut B st.mem) s = none := hs
  rw [zkO] at hs'
  split at hs'
  ·rename_i hB; exact (hout s hB).1
  ·rename_i hB
   rw [Rho.zKP (by simpa using hB)]; exact h.boxNew s hs'
 ·have hs' : getM (memOut B st.mem) s = some [.mp k e kvs] := hs
  rw [zkO] at hs'
  split at hs'
  ·cases hs'
  ·rename_i hB
   have hB : B.contains s = false := by simpa using hB
   obtain ⟨b, g1, g2, g3, g4⟩ := h.mps.at' s k e kvs hs'
   have hsm : SameMaps w w := ⟨Nat.le_refl _, fun _ _ _ h => rfl⟩
   obtain ⟨b', g1', _, _, g4'⟩ := (h.mps.to hk hsm).at' s k e kvs hs'
   rw [g1] at g1'
   cases g1'
   exact ⟨b, by rw [Rho.zWH hB]; exact g1, by rw [Rho.zKP hB]; exact g2, g3, g4'⟩
 ·have hs' : getM (memOut B st.mem) s = none := hs
  rw [zkO] at hs'
  split at hs'
  ·rename_i hB; exact (hout s hB).2
  ·rename_i hB
   rw [Rho.zWH (by simpa using hB)]; exact h.mps.new s hs'
 ·obtain ⟨e1, e2⟩ := Rho.zYT hs
  rw [Rho.zWH e2]; exact h.mps.apart s b e1
 ·obtain ⟨x, g1, g2⟩ := h.tok t ht
  refine ⟨x, g1, ?_⟩
  rcases g2 with g2 | ⟨b, k0, k1, k2, k3, k4, k5, k6, k7⟩
  ·exact .inl g2
  ·refine .inr ⟨b, k0, k1, k2, k3, k4, fun o ho hs => ?_, fun s e => k6 s (Rho.zYT e).1, k7⟩
   rcases h2 b o hs with e | ⟨_, s, _, e⟩
   ·exact k5 o ho e
   ·exact k6 s e
theorem zXX (m : Mem) (B : List Nat) (k : Nat) : ∀ l : List (Nat × AV), getS (frzIn m B l) k = if (getS l k).namesIn B = true then (match AV.toD m 3 (getS l k) with | some x => .d x | none => .undef) else getS l k
 | [] => by simp [frzIn, getS, AV.namesIn]
 | (j, v) :: l => by
  simp only [frzIn, getS]
  by_cases hj : j = k
  ·simp only [hj, if_true]; rfl
  ·simp only [if_neg hj]; exact zXX m B k l
theorem Sim.frzBox (h : Sim c st tmps w S ρ) {B : List Nat} (hd : okDrop B (memOut B st.mem) = true) : ∃ S' ρ', Sim c (st.frzBox B) tmps w S' ρ' := by
 obtain ⟨S', h1, h2, h3, h4, h5⟩ := h.closeIn B
 have h0 := h.someBox hd h1 h2 h3
 refine ⟨S', ρ.out B, { h0 with slots := fun k => ?_ }⟩
 show RepA w S' (ρ.out B) (getS (frzIn (memIn B st.mem) B st.slots) k) _
 rw [zXX]
 have hk := h0.slots k
 have hk : RepA w S' (ρ.out B) (getS (dropIn B st.slots) k) _ := hk
 rw [zjz] at hk
 split
 ·split
  ·rename_i x hx
   exact zXe h5 3 _ _ x (h4 _ _ (h.slots k)) hx
  ·trivial
 ·rename_i hn
  rw [if_neg hn] at hk
  exact hk
theorem zKz {w w' : World} {S S' : Safe} {x : D} {v : Value} (hf : flatD x = true) (h : Rep w S x v) : Rep w' S' x v := by
 cases x <;> simp only [flatD, Bool.false_eq_true] at hf <;> exact h
theorem zKA {w w' : World} {S S' : Safe} : ∀ {xs : List D} {vs : List Value}, xs.all flatD = true → RepL w S xs vs → RepL w' S' xs vs
 | [], _, _, h => h
 | x :: xs, _, hf, ⟨v, r, e, h1, h2⟩ => by
  simp only [List.all_cons, Bool.and_eq_true] at hf
  exact ⟨v, r, e, zKz hf.1 h1, zKA hf.2 h2⟩
mutual
theorem zJU {w w' : World} {S S' : Safe} : ∀ {r : CV} {v : Value}, r.flat = true → RepC w S r v → RepC w' S' r v
 | .one x, _, hf, h => zKz (x := x) hf h
 | .agg xs, _, hf, ⟨vs, e, h⟩ => ⟨vs, e, zKA (by simpa only [CV.flat] using hf) h⟩
 | .tup cs, _, hf, ⟨vs, e, h⟩ => ⟨vs, e, zKB (by simpa only [CV.flat] using hf) h⟩
 | .own _ _ _, _, hf, _ => by simp [CV.flat] at hf
 | .bx _ _ _ _ _ _, _, hf, _ => by simp [CV.flat] at hf
theorem zKB {w w' : World} {S S' : Safe} : ∀ {rs : List CV} {vs : List Value}, CV.flats rs = true → RepCL w S rs vs → RepCL w' S' rs vs
 | [], _, _, h => h
 | r :: rs, _, hf, ⟨v, q, e, h1, h2⟩ => by
  simp only [CV.flats, Bool.and_eq_true] at hf
  exact ⟨v, q, e, zJU hf.1 h1, zKB hf.2 h2⟩
end
theorem yx8 {r : CV} (h : r.flat = true) : r.isOwn = false := by
 cases r <;> first | rfl | simp [CV.flat] at h
end Go.Abs
end
section
namespace Go.Abs
open Go.RowKit
variable {c : Ctx} {st : St} {tmps : Array Value} {w : World} {S : Safe} {ρ : Rho}
theorem ykT (h : Sim c st tmps w S ρ) {o : Oper} {t : TypeId} {esz eb : Nat} {zs : List AV} (ht : chkTy c.P t (.slice esz eb zs) = true) {x y : Operand} {x' y' : X} {ds : List Deferred}
  (ho : o.op = .indexAddr t x y) (hx : trX x = some x') (hy : trX y = some y') (hg : gd st x' = true) (hg2 : gd st y' = true) {s off m cap : Nat} {k : IntKind} {n : Int}
  (he : ev st x' = .vec s esz off m cap) (hn : ev st y' = .d (.int k n)) (hob : 0 ≤ n ∧ n < m) :
  ∃ cv, (execOp (Act.eval ⟨tmps, ds⟩) o).run c.P w = .ok (.value cv) w ∧ RepA w S ρ (.ptr s (off + n.toNat * esz)) cv := by
 have e1 := h.ev hx hg (ds := ds)
 rw [he] at e1
 obtain ⟨_, _, b, hb, hv⟩ := e1
 have e2 := h.ev hy hg2 (ds := ds)
 rw [hn] at e2
 simp only [RepA, Rep] at e2
 obtain ⟨e, ie, z, hu, hie, h1, _, h3, _⟩ := zzv ht
 refine ⟨.pointer (some ⟨b, off + n.toNat * esz, none⟩), ?_, ⟨b, hb, rfl⟩⟩
 unfold execOp
 simp only [ho, hv, e2]
 simp [Instr.indexAt, asIntOf, run_underlying hu, run_sizeOf hie, h1, addr_add, hob.1, hob.2]
theorem yxe {P : Program} {t e : TypeId} {ie : TypeInfo} {esz : Nat} (hu : P.underlying t = some (.slice e)) (hie : P.info? e = some ie) (h1 : ie.size = esz) {b off n cap : Nat} {lo hi mx : Option Value} {l h m : Nat}
  (hb : (Instr.sliceBounds true n cap lo hi mx).run P w = .ok (l, h, m) w) :
  (Instr.slice t (.slice (some ⟨b, off, none⟩) n cap) lo hi mx).run P w = .ok (.slice (some ⟨b, if m = l then off else off + l * esz, none⟩) (h - l) (m - l)) w := by
 simp only [Instr.slice, Sem.run_bind, run_underlying hu, Result.andThen_ok, hb, run_sizeOf hie, h1]
 split <;> simp [addr_add]
theorem zqv (h : Sim c st tmps w S ρ) {o : Oper} {t : TypeId} {esz eb : Nat} {zs : List AV} (ht : chkTy c.P t (.slice esz eb zs) = true) {x : Operand} {lo hi mx : Option Operand} {x' : X} {ds : List Deferred}
  (ho : o.op = .slice t x lo hi mx) (hx : trX x = some x') (hg : gd st x' = true) {s off n cap : Nat} (he : ev st x' = .vec s esz off n cap) {l hh m : Nat} (hlm : hh ≤ m) (hl : l ≤ hh) (hmc : m ≤ cap)
  (hb : ∀ nn cc, nn = n → cc = cap → (Instr.sliceBounds true nn cc (lo.map (Act.eval ⟨tmps, ds⟩)) (hi.map (Act.eval ⟨tmps, ds⟩)) (mx.map (Act.eval ⟨tmps, ds⟩))).run c.P w = .ok (l, hh, m) w) :
  ∃ cv, (execOp (Act.eval ⟨tmps, ds⟩) o).run c.P w = .ok (.value cv) w ∧ RepA w S ρ (vecTo s esz off l hh m) cv := by
 have e1 := h.ev hx hg (ds := ds)
 rw [he] at e1
 obtain ⟨k1, k2, b, hb', hv⟩ := e1
 obtain ⟨e, ie, z, hu, hie, h1, _, h3, _⟩ := zzv ht
 have hrun := yxe (P := c.P) (w := w) hu hie h1 (b := b) (off := off) (hb n cap rfl rfl)
 refine ⟨_, ?_, (by omega : hh - l ≤ m - l), (by omega : m - l ≤ 9223372036854775807), b, hb', rfl⟩
 unfold execOp
 simp only [ho, hv]
 simp [Instr.sliceAt, run_underlying hu, hrun]
theorem yzt {P : Program} {w : World} {n cap : Nat} {kl kh km : IntKind} {l hh m : Int} (lo : Option Value) (hlo : lo = some (.int kl l) ∨ (lo = none ∧ l = 0)) (h0 : 0 ≤ l) (h1 : l ≤ hh) (h2 : hh ≤ m) (h3 : m ≤ cap) :
  (Instr.sliceBounds true n cap lo (some (.int kh hh)) (some (.int km m))).run P w = .ok (l.toNat, hh.toNat, m.toNat) w := by
 have hm0 : 0 ≤ m := by omega
 have hh0 : 0 ≤ hh := by omega
 rcases hlo with rfl | ⟨rfl, rfl⟩
 ·simp [Instr.sliceBounds, run_sliceBound, hm0, h3, hh0, Int.toNat_of_nonneg hm0, h2, h0, Int.toNat_of_nonneg hh0, h1]
 ·simp [Instr.sliceBounds, run_sliceBound, hm0, h3, hh0, Int.toNat_of_nonneg hm0, h2]
theorem zY4 {P : Program} {w : World} {n cap : Nat} {kl kh : IntKind} {l hh : Int} (lo : Option Value) (hlo : lo = some (.int kl l) ∨ (lo = none ∧ l = 0)) (h0 : 0 ≤ l) (h1 : l ≤ hh) (h2 : hh ≤ cap) :
  (Instr.sliceBounds true n cap lo (some (.int kh hh)) none).run P w = .ok (l.toNat, hh.toNat, cap) w := by
 have hh0 : 0 ≤ hh := by omega
 rcases hlo with rfl | ⟨rfl, rfl⟩
 ·simp [Instr.sliceBounds, run_sliceBound, hh0, h2, h0, Int.toNat_of_nonneg hh0, h1]
 ·simp [Instr.sliceBounds, run_sliceBound, hh0, h2]
theorem zJs {P : Program} {w : World} {n cap : Nat} {kl : IntKind} {l : Int} (h0 : 0 ≤ l) (h1 : l ≤ n) :
  (Instr.sliceBounds true n cap (some (.int kl l)) none none).run P w = .ok (l.toNat, n, cap) w := by
 simp [Instr.sliceBounds, run_sliceBound, h0, h1]
theorem ykU (h : Sim c st tmps w S ρ) {o : Oper} {t : TypeId} {esz eb : Nat} {zs : List AV} (ht : chkTy c.P t (.slice esz eb zs) = true) {x : Operand} {lo hi mx : Option Operand} {x' : X} {ds : List Deferred}
  (ho : o.op = .slice t x lo hi mx) (hx : trX x = some x') (hg : gd st x' = true) {es : List (List D)} (hs : (ev st x').elems = some es) (hl : ∀ e ∈ es, e.length = esz) {l hh m : Nat} (hlh : l ≤ hh) (hhm : hh ≤ m) (hmn : m ≤ es.length)
  (hb : ∀ nn cc, es.length = nn → nn ≤ cc → (Instr.sliceBounds true nn cc (lo.map (Act.eval ⟨tmps, ds⟩)) (hi.map (Act.eval ⟨tmps, ds⟩)) (mx.map (Act.eval ⟨tmps, ds⟩))).run c.P w = .ok (l, hh, m) w) :
  ∃ cv, (execOp (Act.eval ⟨tmps, ds⟩) o).run c.P w = .ok (.value cv) w ∧ RepA w S ρ (.d (.lst ((es.take hh).drop l))) cv := by
 have e1 := zwF (h.ev hx hg (ds := ds)) hs
 obtain ⟨e, ie, z, hu, hie, h1, _, h3, _⟩ := zzv ht
 obtain ⟨base, cap, hv, hc1, hc2, hc3, hc4⟩ := e1
 refine ⟨.slice (if m = l then base else base.map (·.add (l * esz))) (hh - l) (m - l), ?_, ?_⟩
 ·unfold execOp
  simp only [ho, hv]
  simp [Instr.sliceAt, Instr.slice, run_underlying hu, hb _ cap rfl hc1, run_sizeOf hie, h1]
 ·refine ⟨(if m = l then base else base.map (·.add (l * esz))), m - l, ?_, ?_, ?_, ?_, ?_⟩
  ·simp only [List.length_drop, List.length_take, Nat.min_eq_left (Nat.le_trans hhm hmn)]
  ·simp only [List.length_drop, List.length_take, Nat.min_eq_left (Nat.le_trans hhm hmn)]; omega
  ·omega
  ·intro hn
   split at hn
   ·omega
   ·have : base = none := by simpa using hn
    have := hc3 this; omega
  ·intro a ha
   have hsz : ∃ sz, ∀ e ∈ (es.take hh).drop l, e.length = sz := ⟨esz, fun e he => hl e (List.mem_of_mem_take (List.mem_of_mem_drop he))⟩
   split at ha
   ·rename_i hcl
    have hnil : (es.take hh).drop l = [] := by
     apply List.drop_of_length_le
     simp; omega
    exact ⟨fun h => by omega, hsz, by rw [hnil]; trivial⟩
   ·cases base with
    | none => cases ha
    | some a0 =>
     obtain ⟨hsp, _, hes⟩ := hc4 a0 rfl
     have hsp := hsp (by omega)
     obtain ⟨b, off, sp⟩ := a0
     simp only at hsp hes
     subst hsp
     simp only [Option.map_some, addr_add, Option.some.injEq] at ha
     subst ha
     exact ⟨fun _ => rfl, hsz, RepEs.drop l (fun e he => hl e (List.mem_of_mem_take he)) (RepEs.take hh hes)⟩
theorem yvu (h : Sim c st tmps w S ρ) {o : Oper} {t' t : TypeId} {k : IntKind} (ht : chkTy c.P t (.cell (.d (.int k 0))) = true) {x : Operand} {x' : X} {ds : List Deferred} (ho : o.op = .convert t' t x) (hx : trX x = some x') (hg : gd st x' = true) (hs : (c.P.underlying t').isSome = true) {q : IntKind} {n : Int} (hn : ev st x' = .d (.int q n)) :
  ∃ cv, (execOp (Act.eval ⟨tmps, ds⟩) o).run c.P w = .ok (.value cv) w ∧ RepA w S ρ (.d (.int k (k.wrap n))) cv := by
 have e1 := h.ev hx hg (ds := ds)
 rw [hn] at e1
 have e1 : Act.eval ⟨tmps, ds⟩ x = .int q n := e1
 have hu : c.P.underlying t = some (.int k) := by
  simp only [chkTy, Bool.and_eq_true, undOk] at ht
  have := ht.1.1
  split at this
  ·rename_i k' hk; rw [hk, eq_of_beq this]
  ·cases this
 obtain ⟨u, hu'⟩ := Option.isSome_iff_exists.1 hs
 refine ⟨.int k (k.wrap n), ?_, rfl⟩
 unfold execOp
 simp [ho, e1, convert, run_underlying hu, run_underlying hu', Conv.intToInt]
theorem yvt (h : Sim c st tmps w S ρ) {o : Oper} {t' t : TypeId} (ht : chkTy c.P t (.cell (.d (.str []))) = true) {x : Operand} {x' : X} {ds : List Deferred} (ho : o.op = .convert t' t x) (hx : trX x = some x') (hg : gd st x' = true) (hs : (c.P.underlying t').isSome = true) {s : List UInt8} (hn : ev st x' = .d (.str s)) :
  ∃ cv, (execOp (Act.eval ⟨tmps, ds⟩) o).run c.P w = .ok (.value cv) w ∧ RepA w S ρ (.d (.str s)) cv := by
 have e1 := h.ev hx hg (ds := ds)
 rw [hn] at e1
 obtain ⟨y, e1, e2, e3⟩ := e1
 have hu := zvX ht
 obtain ⟨u, hu'⟩ := Option.isSome_iff_exists.1 hs
 refine ⟨.string y, ?_, y, rfl, e2, e3⟩
 unfold execOp
 simp [ho, e1, convert, run_underlying hu, run_underlying hu']
theorem RepAs.get : ∀ {as : List AV} {l : List Value} {i : Nat} {a : AV}, RepAs w S ρ as l → as[i]? = some a → ∃ v, l[i]? = some v ∧ RepA w S ρ a v
 | [], _, i, a, _, h => by simp at h
 | b :: as, _, 0, a, ⟨v, r, h, h1, h2⟩, hi => by subst h; simp at hi; subst hi; exact ⟨v, rfl, h1⟩
 | b :: as, _, i + 1, a, ⟨v, r, h, h1, h2⟩, hi => by subst h; simpa using RepAs.get h2 (by simpa using hi)
theorem RepAs.ykb : ∀ {as : List AV} {l : List Value}, as.length = l.length → (∀ (i : Nat) (a : AV) (v : Value), as[i]? = some a → l[i]? = some v → RepA w S ρ a v) → RepAs w S ρ as l
 | [], l, h, _ => by cases l with | nil => rfl | cons => cases h
 | a :: as, [], h, _ => by cases h
 | a :: as, v :: l, h, hi => ⟨v, l, rfl, hi 0 a v rfl rfl, RepAs.ykb (by simpa using h) fun i x y hx hy => hi (i + 1) x y (by simpa using hx) (by simpa using hy)⟩
theorem zJ1 (zs : List AV) : ∀ (n i : Nat), i < n * zs.length → (List.replicate n zs).flatten[i]? = zs[i % zs.length]?
 | 0, i, h => by omega
 | n + 1, i, h => by
  rw [List.replicate_succ, List.flatten_cons]
  by_cases hi : i < zs.length
  ·rw [List.getElem?_append_left hi, Nat.mod_eq_of_lt hi]
  ·rw [List.getElem?_append_right (by omega), zJ1 zs n _ (by rw [Nat.succ_mul] at h; omega), ← Nat.mod_eq_sub_mod (by omega)]
theorem zZX (zs : List AV) (n : Nat) : (List.replicate n zs).flatten.length = n * zs.length := by simp
theorem zQb {zs : List AV} {z : Array Value} (hz : RepAs w S ρ zs z.toList) (n : Nat) : RepAs w S ρ (List.replicate n zs).flatten (madeCells z (n * zs.length)).toList := by
 have hl : z.size = zs.length := by simpa using RepAs.length hz
 refine RepAs.ykb (by rw [zZX]; simp [madeCells]) fun i a v ha hv => ?_
 have hi : i < n * zs.length := by
  have := (List.getElem?_eq_some_iff.1 ha).1
  rwa [zZX] at this
 rw [zJ1 zs n i hi] at ha
 simp only [madeCells, Array.toList_map, Array.toList_range, List.getElem?_map, List.getElem?_range hi, Option.map_some, Option.some.injEq] at hv
 have hpos : 0 < zs.length := by
  rcases Nat.eq_zero_or_pos zs.length with e | e
  ·rw [e] at hi; omega
  ·exact e
 have hm : i % zs.length < z.size := by rw [hl]; exact Nat.mod_lt _ hpos
 obtain ⟨v', e1, e2⟩ := RepAs.get hz ha
 have hv' : v = v' := by
  rw [← hv, hl]
  have : z.toList[i % zs.length]? = some z[i % zs.length] := by simp [hm]
  rw [this] at e1
  rw [← Option.some.inj e1]
  exact getElem!_pos z _ hm
 rw [hv']; exact e2
theorem yvC (h : Sim c st tmps w S ρ) {o : Oper} {t : TypeId} {esz eb : Nat} {zs : List AV} (ht : chkTy c.P t (.slice esz eb zs) = true) {x y : Operand} {x' : X} {ds : List Deferred} (ho : o.op = .makeSlice t x y)
  (hxy : sameOpd x y = true) (hx : trX x = some x') (hg : gd st x' = true) {n : Int} (hn : ev st x' = .d (.int .i64 n)) {d : Nat} (hm : getM st.mem d = none) (hN : d < c.N) (h0 : 0 ≤ n) (hb : n * eb ≤ 2 ^ 46) (h63 : n ≤ 9223372036854775807) (hz : zs.length = esz) :
  ∃ cv w' ρ', (execOp (Act.eval ⟨tmps, ds⟩) o).run c.P w = .ok (.value cv) w' ∧ Sim c { st with mem := (d, (List.replicate n.toNat zs).flatten) :: st.mem } tmps w' S ρ' ∧ RepA w' S ρ' (.vec d esz 0 n.toNat n.toNat) cv := by
 have e1 := h.ev hx hg (ds := ds)
 rw [hn] at e1
 have e1 : Act.eval ⟨tmps, ds⟩ x = .int .i64 n := e1
 have e2 : Act.eval ⟨tmps, ds⟩ y = .int .i64 n := by
  unfold sameOpd at hxy
  split at hxy
  ·rw [← eq_of_beq hxy]; exact e1
  ·simp only [Bool.and_eq_true, beq_iff_eq] at hxy
   rw [← hxy.1, ← hxy.2]; exact e1
  ·cases hxy
 obtain ⟨e, ie, z, hu, hie, h1, h2, h3, hz1, hz2⟩ := zzv ht
 have hne : zs ≠ [] := by intro e; rw [e] at hz; simp at hz; omega
 have hzr := zjj w S ρ (zY8 ht hu hie hz1 hne)
 obtain ⟨ρ', hle, hbx, hs⟩ := h.newBox hm hN (zQb hzr n.toNat) e
 have hrun := run_make (P := c.P) w t e ie z hu hie hz1 .i64 .i64 n n h0 (Int.le_refl _) (by rw [h2, Int.mul_comm]; omega) h63
 rw [h1, ← hz] at hrun
 refine ⟨_, _, ρ', ?_, hs, Nat.le_refl _, by omega, _, hbx, rfl⟩
 unfold execOp
 simp [ho, e1, e2, hrun]
theorem ykQ (h : Sim c st tmps w S ρ) {o : Oper} {t : TypeId} {esz eb n : Nat} {zs : List AV} (ht : chkTy c.P t (.slice esz eb zs) = true) {parts : Array (Nat × Operand)} {xs : List X} {ds : List Deferred}
  (ho : o.op = .buildSlice t n parts) (hp : parts.toList.map (·.1) = List.range n) (hx : trXs (parts.toList.map (·.2)) = some xs) (hg : gds st xs = true) {es : List (List D)} (hr : toElems esz (evs st xs) = some es) (hsmall : n * esz ≤ 2 ^ 24)
  {d : Nat} (hm : getM st.mem d = none) (hN : d < c.N) (h63 : es.length ≤ 9223372036854775807) :
  ∃ cv w' ρ', (execOp (Act.eval ⟨tmps, ds⟩) o).run c.P w = .ok (.value cv) w' ∧ Sim c { st with mem := (d, es.flatten.map .d) :: st.mem } tmps w' S ρ' ∧ RepA w' S ρ' (.vec d esz 0 es.length es.length) cv := by
 obtain ⟨cells', e, hrun, g3, hcs, helen, hall, q3⟩ := yxd h ht ho hp hx hg hr hsmall (ds := ds)
 obtain ⟨ρ', hle, hbx, hs'⟩ := h.newBox hm hN (RepL.toAs (ρ := ρ) g3) e
 exact ⟨.slice (some ⟨w.heap.size, 0, none⟩) n n, _, ρ', hrun, hs', Nat.le_refl _, h63, _, hbx, by rw [helen]⟩
theorem ykY (h : Sim c st tmps w S ρ) {s off : Nat} {cs xs : List AV} {l : List Value} (hm : getM st.mem s = some cs) {b : Nat} (hb : ρ.box s = some b) (hl : RepAs w S ρ xs l) (h1 : ∀ u ∈ l, u.oneCell' = true) (hfit : off + xs.length ≤ cs.length) :
  ∃ w', (storeCells ⟨b, off, none⟩ l 0).run c.P w = .ok () w' ∧ Sim c { st with mem := (s, cs.take off ++ xs ++ cs.drop (off + xs.length)) :: st.mem } tmps w' S ρ := by
 obtain ⟨b', vs, e, g1, g2, g3, g4, g6⟩ := h.mem s cs hm (h.noMp hb hm)
 obtain rfl := Option.some.inj (hb.symm.trans g1)
 have l2 := RepAs.length hl
 have l4 := RepAs.length g4
 simp only [Array.length_toList] at l4
 have hst := run_storeCells_at c.P b off e l 0 vs w g3 (by simp; omega) h1
 simp only [Nat.add_zero] at hst
 refine ⟨_, hst, h.setBox hb g2 g3 g6 (cells := (vs.toList.take off ++ l ++ vs.toList.drop (off + l.length)).toArray) ?_ (by simp [hm])⟩
 simp only [List.toList_toArray]
 rw [l2]
 exact RepAs.append (RepAs.append (RepAs.take _ g4) hl) (RepAs.drop _ g4)
theorem Sim.again (h : Sim c st tmps w S ρ) {s b : Nat} {cs : List AV} (hm : getM st.mem s = some cs) (hb : ρ.box s = some b) : Sim c { st with mem := (s, cs) :: st.mem } tmps w S ρ := by
 obtain ⟨b', vs, e, g1, g2, g3, g4, g6⟩ := h.mem s cs hm (h.noMp hb hm)
 obtain rfl := Option.some.inj (hb.symm.trans g1)
 have := h.setBox hb g2 g3 g6 (cells := vs) g4 (by simp [hm])
 rwa [setRow_self w b vs e (0, 0) g3] at this
theorem flatten1 : ∀ {es : List (List D)}, (∀ e ∈ es, e.length = 1) → es.flatten.length = es.length
 | [], _ => rfl
 | e :: es, h => by
  rw [List.flatten_cons, List.length_append, flatten1 fun x hx => h x (by simp [hx]), h e (by simp), List.length_cons, Nat.add_comm]
theorem yvs (h : Sim c st tmps w S ρ) {o : Oper} {t t' : TypeId} {eb : Nat} {zs : List AV} (ht : chkTy c.P t (.slice 1 eb zs) = true) {x y : Operand} {x' y' : X} {ds : List Deferred}
  (ho : o.op = .call { callee := .builtin .copy, args := #[x, y], argTypes := #[t, t'] }) (hx : trX x = some x') (hy : trX y = some y') (hg : gd st x' = true) (hg2 : gd st y' = true) {s off n cap : Nat} {cs : List AV} {es : List (List D)}
  (he : ev st x' = .vec s 1 off n cap) (hes : (ev st y').elems = some es) (hm : getM st.mem s = some cs) (hl : ∀ e ∈ es, e.length = 1) (hfit : off + n * 1 ≤ cs.length) :
  ∃ w', (execOp (Act.eval ⟨tmps, ds⟩) o).run c.P w = .ok (.value (.int .i64 (Nat.min es.length n : Nat))) w' ∧
   Sim c { st with mem := (s, cs.take off ++ (es.take n).flatten.map .d ++ cs.drop (off + (es.take n).length * 1)) :: st.mem } tmps w' S ρ := by
 have e1 := h.ev hx hg (ds := ds)
 rw [he] at e1
 obtain ⟨_, _, b, hb, hv⟩ := e1
 have e2 := zwF (h.ev hy hg2 (ds := ds)) hes
 obtain ⟨base, cap2, hv2, c1, c2, c3, c4⟩ := e2
 obtain ⟨e, ie, z, hu, hie, h1, _, h3, _⟩ := zzv ht
 have hsz : (c.P.info? e).map (·.size) = some 1 := by rw [hie, Option.map_some, h1]
 by_cases h0 : Nat.min es.length n = 0
 ·have hrun := run_copy_none (P := c.P) w t t' o.type e (some ⟨b, off, none⟩) base n cap es.length cap2 hu hsz h0
  refine ⟨w, ?_, ?_⟩
  ·unfold execOp
   simp [ho, resolve, invoke, builtin, hv, hv2, hrun, goInt, h0]
  ·have hnil : es.take n = [] := by
     apply List.eq_nil_of_length_eq_zero
     rw [List.length_take, Nat.min_comm]; exact h0
   rw [hnil]
   simp only [List.flatten_nil, List.map_nil, List.append_nil, List.length_nil, Nat.zero_mul, Nat.add_zero, List.take_append_drop]
   exact h.again hm hb
 ·have hpos : 0 < Nat.min es.length n := Nat.pos_of_ne_zero h0
  have hesl : 0 < es.length := Nat.lt_of_lt_of_le hpos (Nat.min_le_left _ _)
  cases base with
  | none => have := c3 rfl; omega
  | some a =>
  obtain ⟨d1, _, d3⟩ := c4 a rfl
  have d1 := d1 (by omega)
  obtain ⟨ab, ao, asp⟩ := a
  simp only at d1 d3
  subst d1
  have d4 := RepEs.flat.1 (RepEs.take n d3)
  obtain ⟨l, q1, q2⟩ := RepCs.values d4
  have hfl : ∀ e ∈ es.take n, e.length = 1 := fun e he => hl e (List.mem_of_mem_take he)
  have hll : l.length = Nat.min es.length n := by rw [RepL.length q1, flatten1 hfl, List.length_take, Nat.min_comm]
  obtain ⟨b', vs, ev, g1, g2, g3, g4, g6⟩ := h.mem s cs hm (h.noMp hb hm)
  obtain rfl := Option.some.inj (hb.symm.trans g1)
  have l4 := RepAs.length g4
  simp only [Array.length_toList] at l4
  have hmn : Nat.min es.length n ≤ n := Nat.min_le_right _ _
  have hrun := run_copy_row (P := c.P) w t t' o.type e b off n cap ⟨ab, ao, none⟩ es.length cap2 vs ev l hu hsz g3 hll (fun j v hj => by rw [addr_add]; exact (q2 j v hj).1) (by omega) (RepL.ones q1)
  refine ⟨_, ?_, h.setBox hb g2 g3 g6 (cells := (vs.toList.take off ++ l ++ vs.toList.drop (off + l.length)).toArray) ?_ (by simp [hm])⟩
  ·unfold execOp
   simp [ho, resolve, invoke, builtin, hv, hv2, hrun, goInt, hll]
  ·simp only [List.toList_toArray]
   rw [show (es.take n).length * 1 = l.length by rw [hll, List.length_take, Nat.min_comm, Nat.mul_one]]
   exact RepAs.append (RepAs.append (RepAs.take _ g4) (RepL.toAs q1)) (RepAs.drop _ g4)
theorem yvr (h : Sim c st tmps w S ρ) {o : Oper} {t : TypeId} {tys : List TypeId} {esz eb : Nat} {zs : List AV} (ht : chkTy c.P t (.slice esz eb zs) = true) {x : Operand} {x' : X} {ds : List Deferred}
  (ho : o.op = .call { callee := .builtin .clear, args := #[x], argTypes := (t :: tys).toArray }) (hd : o.dst = none) (hx : trX x = some x') (hg : gd st x' = true) {s off n cap : Nat} {cs : List AV}
  (he : ev st x' = .vec s esz off n cap) (hm : getM st.mem s = some cs) (hz : zs.length = esz) (hc : cells1 zs = true) (hfit : off + n * esz ≤ cs.length) :
  ∃ w', (execOp (Act.eval ⟨tmps, ds⟩) o).run c.P w = .ok (.value (.tuple #[])) w' ∧ Sim c { st with mem := (s, cs.take off ++ (List.replicate n zs).flatten ++ cs.drop (off + n * esz)) :: st.mem } tmps w' S ρ := by
 have e1 := h.ev hx hg (ds := ds)
 rw [he] at e1
 obtain ⟨_, _, b, hb, hv⟩ := e1
 obtain ⟨e, ie, z, hu, hie, h1, _, h3, hz1, hz2⟩ := zzv ht
 have hne : zs ≠ [] := by intro e; rw [e] at hz; simp at hz; omega
 have hzr := zjj w S ρ (zY8 ht hu hie hz1 hne)
 have hmade := zQb hzr n
 by_cases h0 : n = 0
 ·subst h0
  refine ⟨w, ?_, ?_⟩
  ·unfold execOp
   simp [ho, resolve, invoke, builtin, hv, Builtin.clear_, run_underlying hu]
  ·simp only [List.replicate_zero, List.flatten_nil, List.append_nil, Nat.zero_mul, Nat.add_zero, List.take_append_drop]
   exact h.again hm hb
 ·have hzc : (Builtin.zeroCells z.cells n) = madeCells z.cells (n * zs.length) := by
    have : z.cells.size = zs.length := by simpa using RepAs.length hzr
    simp only [Builtin.zeroCells, madeCells, this]
  have hone : ∀ u ∈ (madeCells z.cells (n * zs.length)).toList, u.oneCell' = true := zqO hmade (by
   clear hmade hzc
   induction n with
   | zero => rfl
   | succ n ih =>
    rw [List.replicate_succ, List.flatten_cons]
    have : ∀ (a b : List AV), cells1 a = true → cells1 b = true → cells1 (a ++ b) = true := by
     intro a
     induction a with
     | nil => intro b _ hb; exact hb
     | cons y a iha => intro b ha hb; cases y <;> simp only [cells1, Bool.false_eq_true, List.cons_append] at ha ⊢ <;> exact iha b ha hb
    refine this _ _ hc ?_
    have : ∀ n, cells1 (List.replicate n zs).flatten = true := by
     intro n
     induction n with
     | zero => rfl
     | succ n ih => rw [List.replicate_succ, List.flatten_cons]; exact this _ _ hc ih
    exact this n)
  obtain ⟨w', hrun, hs⟩ := ykY h hm hb hmade hone (off := off) (by rw [zZX, hz]; exact hfit)
  refine ⟨w', ?_, ?_⟩
  ·unfold execOp
   obtain ⟨m, rfl⟩ := Nat.exists_eq_succ_of_ne_zero h0
   simp [ho, resolve, invoke, builtin, hv, Builtin.clear_, run_underlying hu, zqD hie hz1, hzc, hrun]
  ·rw [zZX, hz] at hs
   exact hs
end Go.Abs
end
section
namespace Go.Abs
open Go.RowKit
variable {c : Ctx} {st : St} {tmps : Array Value} {w : World} {S : Safe} {ρ : Rho}
theorem yzL (h : Sim c st tmps w S ρ) {t ty : TypeId} {esz eb : Nat} {zs : List AV} (ht : chkTy c.P t (.slice esz eb zs) = true) {d : Nat} (hd : getT st.tk d = none) {es ys : List (List D)} (hy1 : ys.length = 1) {base base2 : Option Addr} {n cap m cap2 : Nat}
  (hv : Rep w S (.lst es) (.slice base n cap)) (hy : Rep w S (.lst ys) (.slice base2 m cap2)) (hes : ∀ e ∈ es, e.length = esz) (hys : ∀ e ∈ ys, e.length = esz) (hbytes : (es.length + ys.length) * eb ≤ 2 ^ 46) (h63 : es.length + ys.length ≤ 9223372036854775807)
  (hsp : n = cap ∨ ∃ b, base = some ⟨b, 0, none⟩ ∧ c.Own b ∧ (∃ cur e, w.heap[b]? = some (.cells cur e (0, 0)) ∧ cur.size = cap * esz) ∧
   (∀ o, n * esz ≤ o → ¬ S b o) ∧ (∀ s, ρ.box s ≠ some b) ∧ ∀ t' b' y, getT st.tk t' = some true → ρ.tok t' = some (some ⟨b', 0, none⟩, y) → y.1 ≠ y.2.1 → b' ≠ b) :
  ∃ v' w' S' ρ', (Builtin.append_ #[t, t] ty #[.slice base n cap, .slice base2 m cap2]).run c.P w = .ok v' w' ∧ Sim c { st with tk := (d, true) :: st.tk } tmps w' S' ρ' ∧ RepA w' S' ρ' (.pnd d esz es) v' := by
 obtain ⟨e, ie, z, hu, hie, q1, q2, q3, q4, q5⟩ := zzv ht
 obtain ⟨rfl, hn, hcap, hnil, l1, hl1, hl1c⟩ := zxP hv
 obtain ⟨rfl, hm, hcap2, hnil2, l2, hl2, hl2c⟩ := zxP hy
 have htk : ∀ t', getT ((d, true) :: st.tk) t' = if t' = d then some true else if some t' = (none : Option Nat) then (getT st.tk t').map (fun _ => false) else getT st.tk t' := by
  intro t'
  simp only [getT]
  by_cases hh : d = t'
  ·subst hh; simp
  ·have : ¬ t' = d := fun e => hh e.symm
   simp [hh, this]
 have hall : ∀ e ∈ es ++ ys, e.length = esz := fun e he => (List.mem_append.1 he).elim (hes e) (hys e)
 have len1 : l1.length = es.length * esz := (RepL.length hl1).trans (zyd hes)
 have len2 : l2.length = ys.length * esz := (RepL.length hl2).trans (zyd hys)
 have hm0 : ys.length ≠ 0 := by omega
 cases base2 with
 | none => have := hnil2 rfl; omega
 | some a2 =>
  obtain ⟨sp2, hc2⟩ := hl2c a2 rfl
  by_cases hroom : es.length + ys.length ≤ cap
  ·
   rcases hsp with hsp | ⟨b, k0, k1, ⟨cur, e', k2, k2'⟩, k3, k4, k5⟩
   ·omega
   ·subst k0
    obtain ⟨_, hc1⟩ := hl1c _ rfl
    have hfit : es.length * ie.size + l2.length ≤ cur.size := by
     rw [len2, k2', q1, ← Nat.add_mul]; exact Nat.mul_le_mul_right _ hroom
    have hr := run_append_room' (P := c.P) w t ty e e' ie hu hie b es.length cap cur k2 a2 ys.length cap2 l2 (by rw [len2, q1]) (fun j v hj => (hc2 j v hj).1) (RepL.ones hl2) hroom hfit
    rw [q1] at hr hfit
    have hnewsz : (cur.toList.take (es.length * esz) ++ l2 ++ cur.toList.drop (es.length * esz + l2.length)).toArray.size = cur.size := by
     simp; omega
    have hcut : ∀ o, o < es.length * esz → (cur.toList.take (es.length * esz) ++ l2 ++ cur.toList.drop (es.length * esz + l2.length)).toArray[o]? = cur[o]? := by
     intro o ho
     have : o < (cur.toList.take (es.length * esz)).length := by simp; omega
     simp [List.getElem?_append_left this, List.getElem?_take, ho]
    have hs := h.writeFree (n' := es.length * esz) k1 k2 hnewsz k3 hcut (by rw [hnewsz, k2']; exact Nat.mul_le_mul_right _ (by omega)) k4 k5
    have hnew := setRow_heap w b cur (cur.toList.take (es.length * esz) ++ l2 ++ cur.toList.drop (es.length * esz + l2.length)).toArray e' _ k2
    obtain ⟨ρ', hle, hρ, hs'⟩ := hs.newTok hd none htk (some ⟨b, 0, none⟩, es.length, cap, esz) (by
     refine .inr ⟨b, rfl, k1, ⟨_, e', hnew, hnewsz.trans k2'⟩, hn, hcap, fun o ho hso => ?_, k4, fun t' b' y _ a1 a2 a3 => k5 t' b' y a1 a2 a3⟩
     simp only at ho
     rcases hso with hso | ⟨_, hso⟩
     ·exact k3 o ho hso
     ·omega)
    refine ⟨_, _, _, ρ', hr, hs', hes, _, _, _, hρ, ?_, by omega, by rw [hy1]⟩
    have hk : Keeps w S (w.setRow b (cur.toList.take (es.length * esz) ++ l2 ++ cur.toList.drop (es.length * esz + l2.length)).toArray) (fun b' o => S b' o ∨ (b' = b ∧ o < es.length * esz)) := by
     intro b' o hso
     refine ⟨.inl hso, ?_⟩
     by_cases hbb : b' = b
     ·subst hbb
      have ho : o < es.length * esz := by
       rcases Nat.lt_or_ge o (es.length * esz) with h1 | h1
       ·exact h1
       ·exact absurd hso (k3 o h1)
      rw [zzi hnew, zzi k2, hcut o ho]
     ·exact cell_setRow_other hbb
    exact Rep.keep hk _ _ hv
  ·
   have hgrow : ∃ v', (Builtin.append_ #[t, t] ty #[.slice base es.length cap, .slice (some a2) ys.length cap2]).run c.P w =
     .ok (.slice (some ⟨w.heap.size, 0, none⟩) (es.length + ys.length) v') (w.drew.alloc (.cells (l1.toArray ++ l2.toArray ++ Builtin.zeroCells z.cells (v' - (es.length + ys.length))) e)) ∧ es.length + ys.length ≤ v' ∧ v' ≤ 9223372036854775807 := by
    have hb48 : (es.length + ys.length) * ie.bytes ≤ 140737488355328 := by rw [q2]; omega
    have hz' := grownCap_le_maxLen w (es.length + ys.length) cap e (by unfold maxLen; omega)
    unfold maxLen at hz'
    cases base with
    | none =>
     have hc0 := hnil rfl
     have h0 : es.length = 0 := by omega
     have hl0 : l1 = [] := List.eq_nil_of_length_eq_zero (by rw [len1, h0]; simp)
     subst hl0
     subst hc0
     have hr := run_append_nil (P := c.P) w t ty e ie z hu hie q4 a2 ys.length cap2 l2 (by rw [len2, q1]) (fun j v hj => (hc2 j v hj).1) (by omega) (by omega) (by have := hb48; rw [h0, Nat.zero_add] at this; omega)
     simp only [h0, Nat.zero_add] at hz' ⊢
     refine ⟨_, by simpa using hr, grownCap_ge _ _ _ _, hz'⟩
    | some a1 =>
     obtain ⟨sp1, hc1⟩ := hl1c a1 rfl
     have hr := run_append_grow (P := c.P) w t ty e ie z hu hie q4 a1 es.length cap l1 (by rw [len1, q1]) (fun j v hj => (hc1 j v hj).1) a2 ys.length cap2 l2 (by rw [len2, q1]) (fun j v hj => (hc2 j v hj).1) (by omega) (by omega) (growslice_fits (by omega) hb48)
     exact ⟨_, hr, grownCap_ge _ _ _ _, hz'⟩
   obtain ⟨cap', hr, hge, hle63⟩ := hgrow
   generalize hO : (Obj.cells (l1.toArray ++ l2.toArray ++ Builtin.zeroCells z.cells (cap' - (es.length + ys.length))) e) = O at hr
   have hsize : (l1.toArray ++ l2.toArray ++ Builtin.zeroCells z.cells (cap' - (es.length + ys.length))).size = cap' * esz := by
    simp only [Array.size_append, List.size_toArray, size_zeroCells, q5, len1, len2, ← Nat.add_mul]
    congr 1
    omega
   have hnew : (w.drew.alloc O).heap[w.heap.size]? = some (.cells (l1.toArray ++ l2.toArray ++ Builtin.zeroCells z.cells (cap' - (es.length + ys.length))) e (0, 0)) := by
    rw [← hO]; exact heap_alloc_new w.drew _
   have hbel : Below w.heap.size w (w.drew.alloc O) := ((Below.refl _ _).drew).alloc (by simp) _
   have hs := h.grow (w' := w.drew.alloc O) (S' := fun b o => S b o ∨ (b = w.heap.size ∧ o < es.length * esz)) hbel (fun b o hs => .inl hs) (fun b o hs => by
     rcases hs with hs | ⟨rfl, _⟩
     ·exact .inl hs
     ·exact .inr (Nat.le_refl _)) (fun b o hs => by
     rcases hs with hs | ⟨rfl, ho⟩
     ·obtain ⟨v, hv⟩ := h.live b o hs
      exact ⟨v, (hbel.cell (p := ⟨b, o, none⟩) (zyc hv)).trans hv⟩
     ·rw [zzi hnew]
      have : o < (l1.toArray ++ l2.toArray ++ Builtin.zeroCells z.cells (cap' - (es.length + ys.length))).size := by
       rw [hsize]; exact Nat.lt_of_lt_of_le ho (Nat.mul_le_mul_right _ (by omega))
      exact ⟨_, Array.getElem?_eq_getElem this⟩)
   have hSn : ∀ o, ¬ S w.heap.size o := fun o hso => by
    obtain ⟨v, hv⟩ := h.live _ o hso; have := zyc hv; omega
   obtain ⟨ρ', hle, hρ, hs'⟩ := hs.newTok hd none htk (some ⟨w.heap.size, 0, none⟩, es.length, cap', esz) (by
    refine .inr ⟨w.heap.size, rfl, .inl h.below.size, ⟨_, e, hnew, hsize⟩, (by show es.length ≤ cap'; omega), hle63, fun o ho hso => ?_, fun s hsb => ?_, fun t' b' y _ a1 a2 a3 => ?_⟩
    ·simp only at ho
     rcases hso with hso | ⟨_, hso⟩
     ·exact hSn o hso
     ·omega
    ·cases hm' : getM st.mem s with
     | none => rw [h.boxNew s hm'] at hsb; cases hsb
     | some cs' =>
      obtain ⟨b', vs, e', g1, _, g3, _⟩ := h.mem s cs' hm' (h.noMp hsb hm')
      obtain rfl := Option.some.inj (hsb.symm.trans g1)
      have := (Array.getElem?_eq_some_iff.1 g3).1
      omega
    ·obtain ⟨x, m1, m2⟩ := h.tok t' a1
     obtain rfl := Option.some.inj (a2.symm.trans m1)
     rcases m2 with m2 | ⟨b2, m0, _, ⟨_, _, m3, _⟩, _⟩
     ·exact absurd m2 a3
     ·cases m0
      have := (Array.getElem?_eq_some_iff.1 m3).1
      omega)
   refine ⟨_, _, _, ρ', hr, hs', hes, _, _, _, hρ, ?_, by omega, by rw [hy1]⟩
   have hk : Keeps w S (w.drew.alloc O) (fun b o => S b o ∨ (b = w.heap.size ∧ o < es.length * esz)) := fun b o hso => by
    obtain ⟨v, hv⟩ := h.live b o hso
    exact ⟨.inl hso, hbel.cell (p := ⟨b, o, none⟩) (zyc hv)⟩
   have hlA := RepL.keep hk _ _ hl1
   have := zxS (cap := cap') hes hlA (b := w.heap.size) (fun j v hj => ?_) (by omega) hle63
   ·exact this
   ·rw [zzi hnew]
    have hlt : j < l1.length := (List.getElem?_eq_some_iff.1 hj).1
    refine ⟨?_, .inr ⟨rfl, by omega⟩⟩
    rw [Array.getElem?_append_left (by simp; omega), Array.getElem?_append_left (by simpa using hlt)]
    simpa using hj
theorem ykS (h : Sim c st tmps w S ρ) {o : Oper} {t : TypeId} {esz eb : Nat} {zs : List AV} (ht : chkTy c.P t (.slice esz eb zs) = true) {x y : Operand} {x' y' : X} {ds : List Deferred}
  (ho : o.op = .indexAddr t x y) (hx : trX x = some x') (hy : trX y = some y') (hg : gd st x' = true) (hg2 : gd st y' = true) {tk : Nat} {es : List (List D)} {k : IntKind} {n : Int}
  (he : ev st x' = .pnd tk esz es) (hn : ev st y' = .d (.int k n)) (hob : n = es.length) :
  ∃ cv, (execOp (Act.eval ⟨tmps, ds⟩) o).run c.P w = .ok (.value cv) w ∧ RepA w S ρ (.eptr tk esz) cv := by
 have e1 := h.ev hx hg (ds := ds)
 rw [he] at e1
 obtain ⟨hlen, base, m, cap, hρ, hrep, hcap, hv⟩ := e1
 have e2 := h.ev hy hg2 (ds := ds)
 rw [hn] at e2
 simp only [RepA, Rep] at e2
 obtain ⟨e, ie, z, hu, hie, h1, _, h3, _⟩ := zzv ht
 cases base with
 | none =>
  obtain ⟨base', cap', hv', _, _, h0, _⟩ := hrep
  cases hv'
  have := h0 rfl
  omega
 | some a =>
 have hm : m = es.length := by obtain ⟨_, _, hv', _⟩ := hrep; cases hv'; rfl
 subst hm
 refine ⟨.pointer (some (a.add (es.length * esz))), ?_, ⟨a, es.length, cap, hρ, hcap, rfl⟩⟩
 unfold execOp
 simp only [ho, hv, e2, hob]
 have hlt : (es.length : Int) < ((es.length + 1 : Nat) : Int) := by omega
 simp [Instr.indexAt, asIntOf, run_underlying hu, run_sizeOf hie, h1, hlt]
theorem ykR (h : Sim c st tmps w S ρ) {o : Oper} {t : TypeId} {esz eb n : Nat} {zs : List AV} (ht : chkTy c.P t (.slice esz eb zs) = true) {parts : Array (Nat × Operand)} {x : X} {ds : List Deferred}
  (ho : o.op = .buildSlice t n parts) (hp : parts.toList.map (·.1) = List.range n) (hx : trXs (parts.toList.map (·.2)) = some [x]) (hg : gd st x = true) {es : List (List D)} (hr : toElems esz [ev st x] = some es) (hsmall : n * esz ≤ 2 ^ 24) :
  ∃ cv w' S', (execOp (Act.eval ⟨tmps, ds⟩) o).run c.P w = .ok (.value cv) w' ∧ Sim c st tmps w' S' ρ ∧ RepA w' S' ρ (.zsl esz) cv := by
 obtain ⟨cv, w', S', h1, h2, h3, _⟩ := ykc h ht ho hp hx (by simp [gds, hg]) (by simpa only [evs] using hr) hsmall (ds := ds)
 refine ⟨cv, w', S', h1, h2, ?_⟩
 simp only [toElems] at hr
 split at hr
 ·split at hr
  ·rename_i e es' he hes hl
   cases hr
   have : es' = [] := by simpa [toElems] using hes.symm
   subst this
   exact ⟨e, hl, h3⟩
  ·cases hr
 ·cases hr
mutual
theorem RepA.fill {w' : World} {S' : Safe} {ρ' : Rho} {t : Nat} {xs : List D} (hk : Keeps w S w' S') (hb : ρ'.box = ρ.box) (hm : ρ'.mbox = ρ.mbox) (ht : ∀ t', t' ≠ t → ρ'.tok t' = ρ.tok t')
  (hp : ∀ sz es v, RepA w S ρ (.pnd t sz es) v → RepA w' S' ρ' (.own t sz (es ++ [xs])) v) : ∀ (a : AV) (v : Value), RepA w S ρ a v → RepA w' S' ρ' (a.fill t xs) v
 | .undef, _, _ => trivial
 | .d x, _, h => Rep.keep hk x _ h
 | .full _, _, ⟨h1, h2⟩ => ⟨Rep.keep hk _ _ h1, h2⟩
 | .agg cs, _, ⟨vs, h1, h2⟩ => ⟨vs, h1, RepAs.fill hk hb hm ht hp cs _ h2⟩
 | .tup cs, _, ⟨vs, h1, h2⟩ => ⟨vs, h1, RepAs.fill hk hb hm ht hp cs _ h2⟩
 | .clo _ cs, _, ⟨vs, h1, h2⟩ => ⟨vs, h1, RepAs.fill hk hb hm ht hp cs _ h2⟩
 | .cond _ a, _, ⟨h1, h2⟩ => ⟨fun hg => RepA.fill hk hb hm ht hp a _ (h1 hg), h2⟩
 | .ptr _ _, _, ⟨b, h1, h2⟩ => ⟨b, by rw [hb]; exact h1, h2⟩
 | .mref _, _, ⟨b, h1, h2⟩ => ⟨b, by rw [hm]; exact h1, h2⟩
 | .vec _ _ _ _ _, _, ⟨k1, k2, b, h1, h2⟩ => ⟨k1, k2, b, by rw [hb]; exact h1, h2⟩
 | .zsl _, _, ⟨e, h1, h2⟩ => ⟨e, h1, Rep.keep hk _ _ h2⟩
 | .mp _ _ _, _, h => h.elim
 | .own t' sz es, v, h => by
  simp only [AV.fill]
  by_cases he : t' = t
  ·rw [if_pos he]; trivial
  ·rw [if_neg he]
   obtain ⟨h1, h2, base, n, cap, h3, h4⟩ := h
   exact ⟨Rep.keep hk _ _ h1, h2, base, n, cap, by rw [ht t' he]; exact h3, h4⟩
 | .pnd t' sz es, v, h => by
  simp only [AV.fill]
  by_cases he : t' = t
  ·rw [if_pos he]; subst he; exact hp sz es v h
  ·rw [if_neg he]
   obtain ⟨h1, base, n, cap, h2, h3, h4⟩ := h
   exact ⟨h1, base, n, cap, by rw [ht t' he]; exact h2, Rep.keep hk _ _ h3, h4⟩
 | .eptr t' sz, v, h => by
  simp only [AV.fill]
  by_cases he : t' = t
  ·rw [if_pos he]; trivial
  ·rw [if_neg he]
   obtain ⟨b, n, cap, h2, h3⟩ := h
   exact ⟨b, n, cap, by rw [ht t' he]; exact h2, h3⟩
theorem RepAs.fill {w' : World} {S' : Safe} {ρ' : Rho} {t : Nat} {xs : List D} (hk : Keeps w S w' S') (hb : ρ'.box = ρ.box) (hm : ρ'.mbox = ρ.mbox) (ht : ∀ t', t' ≠ t → ρ'.tok t' = ρ.tok t')
  (hp : ∀ sz es v, RepA w S ρ (.pnd t sz es) v → RepA w' S' ρ' (.own t sz (es ++ [xs])) v) : ∀ (as : List AV) (vs : List Value), RepAs w S ρ as vs → RepAs w' S' ρ' (AV.fills t xs as) vs
 | [], _, h => h
 | a :: as, _, ⟨v, r, h, h1, h2⟩ => ⟨v, r, h, RepA.fill hk hb hm ht hp a v h1, RepAs.fill hk hb hm ht hp as r h2⟩
end
theorem zKL (t : Nat) (xs : List D) (k : Nat) : ∀ l : List (Nat × AV), getS (fillSlots t xs l) k = (getS l k).fill t xs
 | [] => rfl
 | (j, v) :: l => by
  simp only [fillSlots, getS]
  by_cases hj : j = k
  ·simp only [hj, if_true]
  ·simp only [if_neg hj]; exact zKL t xs k l
theorem zvM (t : Nat) (xs : List D) (k : Nat) : ∀ l : Mem, getM (fillMem t xs l) k = (getM l k).map (AV.fills t xs)
 | [] => rfl
 | (j, v) :: l => by
  simp only [fillMem, getM]
  by_cases hj : j = k
  ·simp only [hj, if_true, Option.map_some]
  ·simp only [if_neg hj]; exact zvM t xs k l
theorem ykD {t : Nat} {xs : List D} (a : AV) : (a.fill t xs).isMp = a.isMp := by
 cases a with
 | own t' sz es => simp only [AV.fill]; by_cases he : t' = t <;> simp [he, AV.isMp]
 | pnd t' sz es => simp only [AV.fill]; by_cases he : t' = t <;> simp [he, AV.isMp]
 | eptr t' sz => simp only [AV.fill]; by_cases he : t' = t <;> simp [he, AV.isMp]
 | _ => simp only [AV.fill, AV.isMp]
theorem zJT {t : Nat} {xs : List D} {cs : List AV} : isMp (AV.fills t xs cs) = isMp cs := by
 cases cs with
 | nil => rfl
 | cons a r =>
  cases r with
  | cons b r => rfl
  | nil => exact ykD a
theorem yx7 {t : Nat} {xs : List D} {cs : List AV} {k e : Nat} {kvs : List (D × MV)} (h : AV.fills t xs cs = [.mp k e kvs]) : cs = [.mp k e kvs] := by
 have h1 : isMp cs = true := by rw [← zJT (t := t) (xs := xs), h]; rfl
 obtain ⟨k', e', kvs', rfl⟩ := zxd.1 h1
 simpa only [AV.fills, AV.fill] using h
theorem yvH (h : Sim c st tmps w S ρ) {o : Oper} {ty : Ty} {t : TypeId} (ht : chkTy c.P t ty = true) {x y : Operand} {x' y' : X} {ds : List Deferred} (ho : o.op = .store t x y) (hx : trX x = some x') (hy : trX y = some y')
  {tk sz : Nat} {xs : List D} (hp : ev st x' = .eptr tk sz) (hg : gd st x' = true) (hg2 : gd st y' = true) (hsol : (ev st y').solid = true) (hxs : toDs [] 1 (ev st y').cells = some xs) (hn : tySize ty = sz) (hl : xs.length = sz) (htk : getT st.tk tk = some true) :
  ∃ w' S' ρ', (execOp (Act.eval ⟨tmps, ds⟩) o).run c.P w = .ok .skip w' ∧ Sim c (st.fill tk xs) tmps w' S' ρ' := by
 have e1 := h.ev hx hg (ds := ds)
 rw [hp] at e1
 obtain ⟨a, n, cap, hρ, hcap, hv⟩ := e1
 have e2 := zkw (m := []) zyv 1 (zvk (h.ev hy hg2 (ds := ds)) hsol) hxs
 obtain ⟨i, z, hi, _, hsz, _, _, _⟩ := zvl ht
 obtain ⟨x0, q1, q2⟩ := h.tok tk htk
 rw [hρ] at q1; cases q1
 rcases q2 with q2 | ⟨b, k0, k1, ⟨cur, e, k2, k2'⟩, k3, k4, k5, k6, k7⟩
 ·simp only at q2; omega
 cases k0
 rw [addr_add, Nat.zero_add] at hv
 simp only at k2' k3 k4 k5
 have lx := RepL.length e2
 simp only [Array.length_toList] at lx
 have hmul : n * sz + sz ≤ cap * sz := by rw [← Nat.succ_mul]; exact Nat.mul_le_mul_right _ hcap
 have hst := run_storeCells_at c.P b (n * sz) e (Act.eval ⟨tmps, ds⟩ y).cells.toList 0 cur w k2 (by simp; omega) (RepL.ones e2)
 simp only [Nat.add_zero, Array.length_toList] at hst
 generalize hnewd : (cur.toList.take (n * sz) ++ (Act.eval ⟨tmps, ds⟩ y).cells.toList ++ cur.toList.drop (n * sz + (Act.eval ⟨tmps, ds⟩ y).cells.size)).toArray = new at hst
 have hnewsz : new.size = cur.size := by rw [← hnewd]; simp; omega
 have hcut : ∀ o, o < n * sz → new[o]? = cur[o]? := by
  intro o ho
  have : o < (cur.toList.take (n * sz)).length := by simp; omega
  rw [← hnewd]
  simp [List.getElem?_append_left this, List.getElem?_take, ho]
 have hmid : ∀ j v, (Act.eval ⟨tmps, ds⟩ y).cells.toList[j]? = some v → new[n * sz + j]? = some v := by
  intro j v hj
  have hlt : j < (Act.eval ⟨tmps, ds⟩ y).cells.toList.length := (List.getElem?_eq_some_iff.1 hj).1
  have t1 : (cur.toList.take (n * sz)).length = n * sz := by simp; omega
  rw [← hnewd]
  simp only [List.getElem?_toArray, List.append_assoc]
  rw [List.getElem?_append_right (by rw [t1]; omega), List.getElem?_append_left (by rw [t1]; omega), t1, show n * sz + j - n * sz = j by omega]
  exact hj
 have hk : Keeps w S (w.setRow b new) (fun b' o => S b' o ∨ (b' = b ∧ o < (n + 1) * sz)) := by
  intro b' o hso
  refine ⟨.inl hso, ?_⟩
  by_cases hbb : b' = b
  ·subst hbb
   have ho : o < n * sz := by
    rcases Nat.lt_or_ge o (n * sz) with h1 | h1
    ·exact h1
    ·exact absurd hso (k5 o h1)
   rw [zzi (setRow_heap w b' cur new e _ k2), zzi k2, hcut o ho]
  ·exact cell_setRow_other hbb
 have hnew := setRow_heap w b cur new e _ k2
 let ρ' : Rho := { ρ with tok := fun t => if t = tk then some (some ⟨b, 0, none⟩, n + 1, cap, sz) else ρ.tok t }
 have hpnd : ∀ sz' es v, RepA w S ρ (.pnd tk sz' es) v → RepA (w.setRow b new) (fun b' o => S b' o ∨ (b' = b ∧ o < (n + 1) * sz)) ρ' (.own tk sz' (es ++ [xs])) v := by
  rintro sz' es v ⟨h1, base, n', cap', h2, h3, h4, rfl⟩
  rw [hρ] at h2; cases h2
  have hlen : es.length = n := by obtain ⟨_, _, hv', _⟩ := h3; cases hv'; rfl
  have hall : ∀ e ∈ es ++ [xs], e.length = sz := fun e he => by
   rcases List.mem_append.1 he with he | he
   ·exact h1 e he
   ·rw [List.mem_singleton.1 he]; exact hl
  obtain ⟨_, _, _, _, l1, hl1, hl1c⟩ := zxP h3
  obtain ⟨_, hc1⟩ := hl1c _ rfl
  have len1 : l1.length = n * sz := by rw [RepL.length hl1, zyd h1, hlen]
  have hlA : RepL (w.setRow b new) (fun b' o => S b' o ∨ (b' = b ∧ o < (n + 1) * sz)) (es ++ [xs]).flatten (l1 ++ (Act.eval ⟨tmps, ds⟩ y).cells.toList) := by
   rw [List.flatten_append]
   simp only [List.flatten_cons, List.flatten_nil, List.append_nil]
   exact RepL.append (RepL.keep hk _ _ hl1) (RepL.keep hk _ _ e2)
  have := zxS (cap := cap) hall hlA (b := b) (fun j v hj => ?_) (by simp; omega) k4
  ·refine ⟨?_, hall, some ⟨b, 0, none⟩, n + 1, cap, by simp [ρ'], rfl⟩
   have e : (es ++ [xs]).length = n + 1 := by simp [hlen]
   rw [e] at this; exact this
  ·rw [zzi hnew]
   rcases Nat.lt_or_ge j l1.length with hj1 | hj1
   ·rw [List.getElem?_append_left hj1] at hj
    have hcj := (hc1 j v hj).1
    rw [addr_add, Nat.zero_add, zzi k2] at hcj
    refine ⟨by rw [hcut j (by omega)]; exact hcj, .inr ⟨rfl, ?_⟩⟩
    rw [Nat.succ_mul]; omega
   ·rw [List.getElem?_append_right hj1] at hj
    have hlt : j - l1.length < (Act.eval ⟨tmps, ds⟩ y).cells.toList.length := (List.getElem?_eq_some_iff.1 hj).1
    simp only [Array.length_toList] at hlt
    have := hmid _ _ hj
    rw [show n * sz + (j - l1.length) = j by omega] at this
    exact ⟨this, .inr ⟨rfl, by rw [Nat.succ_mul]; omega⟩⟩
 have hfill : ∀ a v, RepA w S ρ a v → RepA (w.setRow b new) (fun b' o => S b' o ∨ (b' = b ∧ o < (n + 1) * sz)) ρ' (a.fill tk xs) v := RepA.fill hk rfl rfl (fun t' ht' => by simp [ρ', ht']) hpnd
 have hfills : ∀ as vs, RepAs w S ρ as vs → RepAs (w.setRow b new) (fun b' o => S b' o ∨ (b' = b ∧ o < (n + 1) * sz)) ρ' (AV.fills tk xs as) vs := RepAs.fill hk rfl rfl (fun t' ht' => by simp [ρ', ht']) hpnd
 refine ⟨_, _, ρ', ?_, { size := h.size, slots := fun k => ?_, mem := fun s cs hs hnm => ?_, inj := h.inj, boxNew := fun s hs => ?_, mps := { at' := fun s k e' kvs hs => ?_, inj := h.mps.inj, new := fun s hs => ?_, lt := fun s b' hs => ?_, apart := h.mps.apart }, tok := fun t' ht' => ?_, tokNew := fun t' ht' => ?_, below := h.below.setRow k1 _, old := fun b' o hs => .inl (h.old b' o hs), new := ?_, live := ?_, glob := fun g cs hg => RepCs.keep hk g 0 cs (h.glob g cs hg), fx := h.fx, ex := h.ex, obs := fun p hp => ⟨by rw [setRow_other w b p.1 new (yyJ k2 (h.obs p hp))]; exact (h.obs p hp).1, (h.obs p hp).2⟩, keeps := fun p hp => (h.keeps p hp).trans hk, pins := h.pins }⟩
 ·unfold execOp
  simp only [ho, hv]
  simp only [Instr.storeAt, Instr.sureAddr, storeVar, Sem.run_bind, Sem.run_pure, Result.andThen_ok, run_sizeOf hi, hsz]
  rw [if_neg (by rw [lx, hl, hn]; simp)]
  simp only [hst, Sem.run_pure, Sem.run_bind, Result.andThen_ok]
 ·show RepA _ _ _ (getS (fillSlots tk xs st.slots) k) _
  rw [zKL]
  exact hfill _ _ (h.slots k)
 ·have hs : getM (fillMem tk xs st.mem) s = some cs := hs
  rw [zvM] at hs
  rw [Option.map_eq_some_iff] at hs
  obtain ⟨cs0, hs0, rfl⟩ := hs
  rw [zJT] at hnm
  obtain ⟨b', vs, e', g1, g2, g3, g4, g6⟩ := h.mem s cs0 hs0 hnm
  have hne : b' ≠ b := fun hbb => k6 s (hbb ▸ g1)
  exact ⟨b', vs, e', g1, g2, by rw [setRow_other w b b' new hne]; exact g3, hfills cs0 _ g4, fun o ho => by
   rcases ho with ho | ⟨hb, _⟩
   ·exact g6 o ho
   ·exact hne hb⟩
 ·have hs : getM (fillMem tk xs st.mem) s = none := hs
  rw [zvM, Option.map_eq_none_iff] at hs
  exact h.boxNew s hs
 ·have hs : getM (fillMem tk xs st.mem) s = some [.mp k e' kvs] := hs
  rw [zvM, Option.map_eq_some_iff] at hs
  obtain ⟨cs0, hs0, hs1⟩ := hs
  have := yx7 hs1
  subst this
  obtain ⟨b', g1, g2, g3, g4⟩ := h.mps.at' s k e' kvs hs0
  obtain ⟨es, clock, g5⟩ := g4.obj
  exact ⟨b', g1, g2, g3, g4.to hk (setRow_other w b b' new fun hbb => by subst hbb; rw [k2] at g5; cases g5)⟩
 ·have hs : getM (fillMem tk xs st.mem) s = none := hs
  rw [zvM, Option.map_eq_none_iff] at hs
  exact h.mps.new s hs
 ·have := h.mps.lt s b' hs
  simpa [World.setRow] using this
 ·by_cases he : t' = tk
  ·subst he
   refine ⟨(some ⟨b, 0, none⟩, n + 1, cap, sz), by simp [ρ'], ?_⟩
   refine .inr ⟨b, rfl, k1, ⟨new, e, hnew, hnewsz.trans k2'⟩, hcap, k4, fun o ho hso => ?_, k6, fun t2 b2 y2 hne ht2 htok2 hy2 => ?_⟩
   ·simp only at ho
    rcases hso with hso | ⟨_, hso⟩
    ·exact k5 o (Nat.le_trans (Nat.mul_le_mul_right _ (Nat.le_succ _)) ho) hso
    ·omega
   ·have : ρ.tok t2 = some (some ⟨b2, 0, none⟩, y2) := by simpa [ρ', hne] using htok2
    exact k7 t2 b2 y2 hne ht2 this hy2
  ·obtain ⟨y0, g1, g2⟩ := h.tok t' ht'
   refine ⟨y0, by simp [ρ', he, g1], ?_⟩
   by_cases hfull : y0.2.1 = y0.2.2.1
   ·exact .inl hfull
   rcases g2 with g2 | ⟨b2, m0, m1, ⟨cur2, e2', m2, m2'⟩, m3, m4, m5, m6, m7⟩
   ·exact .inl g2
   ·have hne : b2 ≠ b := k7 t' b2 y0.2 he ht' (by rw [g1, ← m0]) hfull
    refine .inr ⟨b2, m0, m1, ⟨cur2, e2', by rw [setRow_other w b b2 new hne]; exact m2, m2'⟩, m3, m4, fun o ho hs => ?_, m6, fun t2 b3 y3 hne3 ht3 htok3 hy3 => ?_⟩
    ·rcases hs with hs | ⟨hb, _⟩
     ·exact m5 o ho hs
     ·exact hne hb
    ·by_cases ht2 : t2 = tk
     ·subst ht2
      have : some (some (⟨b, 0, none⟩ : Addr), n + 1, cap, sz) = some (some ⟨b3, 0, none⟩, y3) := by simpa [ρ'] using htok3
      cases this
      exact fun e => hne e.symm
     ·have : ρ.tok t2 = some (some ⟨b3, 0, none⟩, y3) := by simpa [ρ', ht2] using htok3
      exact m7 t2 b3 y3 hne3 ht3 this hy3
 ·by_cases he : t' = tk
  ·subst he
   have ht' : getT st.tk t' = none := ht'
   rw [htk] at ht'; cases ht'
  ·simp only [ρ', if_neg he]; exact h.tokNew t' ht'
 ·intro b' o hs
  rcases hs with hs | ⟨rfl, _⟩
  ·exact h.new b' o hs
  ·exact .inr k1
 ·intro b' o hs
  rcases hs with hs | ⟨rfl, ho⟩
  ·obtain ⟨v, hv'⟩ := h.live b' o hs
   exact ⟨v, ((hk b' o hs).2).trans hv'⟩
  ·rw [zzi hnew]
   have : o < new.size := by rw [hnewsz, k2']; exact Nat.lt_of_lt_of_le ho (Nat.mul_le_mul_right _ hcap)
   exact ⟨new[o], by simp [this]⟩
end Go.Abs
end
section
namespace Go.Abs
open Go.RowKit
variable {c : Ctx} {st : St} {tmps : Array Value} {w : World} {S : Safe} {ρ : Rho}
theorem Sim.addBox (h : Sim c st tmps w S ρ) {w' : World} {S' : Safe} (hg : Sim c st tmps w' S' ρ) {b : Nat} (hb : w.heap.size ≤ b) {s : Nat} (hs : getM st.mem s = none) (hN : s < c.N) {cs : List AV} {vs : Array Value} {e : TypeId}
  (hh : w'.heap[b]? = some (.cells vs e (0, 0))) (hc : RepAs w' S' ρ cs vs.toList) (hS : ∀ o, ¬ S' b o) :
  ∃ ρ', ρ.le ρ' ∧ ρ'.box s = some b ∧ Sim c { st with mem := (s, cs) :: st.mem } tmps w' S' ρ' := by
 have hle : ρ.le { ρ with box := fun k => if k = s then some b else ρ.box k } := by
  refine ⟨fun k b hk => ?_, fun _ _ h => h, fun _ _ h => h⟩
  by_cases hks : k = s
  ·subst hks; rw [h.boxNew k hs] at hk; cases hk
  ·simp [hks, hk]
 have hold : ∀ k b', ρ.box k = some b' → b' < w.heap.size := by
  intro k b' hk
  cases hm : getM st.mem k with
  | none => rw [h.boxNew k hm] at hk; cases hk
  | some cs' =>
   obtain ⟨b'', vs, e', g1, _, g3, _⟩ := h.mem k cs' hm (h.noMp hk hm)
   obtain rfl := Option.some.inj (hk.symm.trans g1)
   exact (Array.getElem?_eq_some_iff.1 g3).1
 have hk : Keeps w' S' w' S' := Keeps.refl _ _
 refine ⟨{ ρ with box := fun k => if k = s then some b else ρ.box k }, hle, by simp, ?_⟩
 refine { size := hg.size, slots := fun k => (hg.slots k).keep hk hle, mem := ?_, inj := ?_, boxNew := ?_, mps := ?_, tok := ?_, tokNew := hg.tokNew, below := hg.below, old := hg.old, new := hg.new, live := hg.live, glob := hg.glob, fx := hg.fx, ex := hg.ex, obs := hg.obs, keeps := hg.keeps, pins := h.pins.sub (fun s' b e => by
  simp only at e
  by_cases hs' : s' = s
  ·exact .inl (hs' ▸ hN)
  ·rw [if_neg hs'] at e; exact .inr e) fun _ _ e => .inr e }
 ·intro k cs' hkm hnm
  simp only [getM] at hkm
  split at hkm
  ·rename_i hks
   subst hks
   cases hkm
   exact ⟨b, vs, e, by simp, .inl (Nat.le_trans h.below.size hb), hh, RepAs.keep hk hle cs _ hc, hS⟩
  ·obtain ⟨b', vs, e', g1, g2, g3, g4, g6⟩ := hg.mem k cs' hkm hnm
   exact ⟨b', vs, e', hle.1 _ _ g1, g2, g3, RepAs.keep hk hle cs' _ g4, g6⟩
 ·intro k k' b' hk1 hk2
  simp only at hk1 hk2
  split at hk1 <;> split at hk2
  ·simp_all
  ·have := hold k' b' hk2; cases hk1; omega
  ·have := hold k b' hk1; cases hk2; omega
  ·exact h.inj k k' b' hk1 hk2
 ·intro k hkm
  simp only [getM] at hkm
  split at hkm
  ·cases hkm
  ·rename_i hks
   have : ¬ k = s := fun e => hks e.symm
   simp [this, h.boxNew k hkm]
 ·refine MpsOk.cons ?_ (RepAs.noMp hc)
  refine hg.mps.rho rfl fun k b hk => ?_
  simp only at hk
  split at hk
  ·rename_i e; subst e; exact h.mps.new k hs
  ·exact h.mps.apart k b hk
 ·intro t ht
  obtain ⟨x, g1, g2⟩ := hg.tok t ht
  refine ⟨x, g1, ?_⟩
  by_cases hfull : x.2.1 = x.2.2.1
  ·exact .inl hfull
  obtain ⟨x', g1', g2'⟩ := h.tok t ht
  obtain rfl := Option.some.inj (g1.symm.trans g1')
  rcases g2 with g2 | ⟨b', g0, k1, k2, k3, k4, k5, k6, k7⟩
  ·exact .inl g2
  ·rcases g2' with g2' | ⟨b2, m0, _, ⟨_, _, m3, _⟩, _⟩
   ·exact absurd g2' hfull
   rw [g0] at m0; cases m0
   have hlt := (Array.getElem?_eq_some_iff.1 m3).1
   refine .inr ⟨b', g0, k1, k2, k3, k4, k5, fun k => ?_, k7⟩
   simp only
   split
   ·intro hb
    cases hb
    omega
   ·exact k6 k
theorem RepAs.undefs : ∀ (l : List Value), RepAs w S ρ (List.replicate l.length .undef) l
 | [] => rfl
 | v :: l => ⟨v, l, rfl, trivial, RepAs.undefs l⟩
theorem RepAs.undefs' {l : List Value} {n : Nat} (h : l.length = n) : RepAs w S ρ (List.replicate n .undef) l := by subst h; exact RepAs.undefs l
theorem ykO (h : Sim c st tmps w S ρ) {t ty : TypeId} {esz eb : Nat} {zs : List AV} (ht : chkTy c.P t (.slice esz eb zs) = true) {e0 : List D} (he0 : e0.length = esz) {s n cap : Nat} {cs : List AV} {b : Nat} (hb : ρ.box s = some b) (hm : getM st.mem s = some cs) {b2 : Option Addr} {c2 : Nat}
  (hy : Rep w S (.lst [e0]) (.slice b2 1 c2)) (hcs : cap * esz ≤ cs.length) (hn : n ≤ cap) (hcap : cap ≤ 9223372036854775807) (hbytes : (n + 1) * eb ≤ 2 ^ 46) (h63 : n + 1 ≤ 9223372036854775807) :
  (n + 1 ≤ cap → ∃ w' ρ', (Builtin.append_ #[t, t] ty #[.slice (some ⟨b, 0, none⟩) n cap, .slice b2 1 c2]).run c.P w = .ok (.slice (some ⟨b, 0, none⟩) (n + 1) cap) w' ∧
   Sim c { st with mem := (s, cs.take (n * esz) ++ List.replicate esz .undef ++ cs.drop (n * esz + esz)) :: st.mem } tmps w' S ρ' ∧ ρ' = ρ) ∧
  (cap < n + 1 → ∀ s', getM st.mem s' = none → s' < c.N → ∃ w' ρ' cap', n + 1 ≤ cap' ∧ cap' ≤ 9223372036854775807 ∧ ∃ b', (Builtin.append_ #[t, t] ty #[.slice (some ⟨b, 0, none⟩) n cap, .slice b2 1 c2]).run c.P w = .ok (.slice (some ⟨b', 0, none⟩) (n + 1) cap') w' ∧
   ρ.le ρ' ∧ ρ'.box s' = some b' ∧ Sim c { st with mem := (s', cs.take (n * esz) ++ List.replicate (cap' * esz - n * esz) .undef) :: st.mem } tmps w' S ρ') := by
 obtain ⟨e, ie, z, hu, hie, q1, q2, q3, q4, q5⟩ := zzv ht
 obtain ⟨_, hm2, hcap2, hnil2, l2, hl2, hl2c⟩ := zxP hy
 have len2 : l2.length = 1 * esz := by rw [RepL.length hl2]; simp [he0]
 obtain ⟨b', vs, ev, g1, g2, g3, g4, g6⟩ := h.mem s cs hm (h.noMp hb hm)
 obtain rfl := Option.some.inj (hb.symm.trans g1)
 have l4 := RepAs.length g4
 simp only [Array.length_toList] at l4
 have hnc : n * esz ≤ cap * esz := Nat.mul_le_mul_right _ hn
 cases b2 with
 | none => have := hnil2 rfl; omega
 | some a2 =>
 obtain ⟨sp2, hc2⟩ := hl2c a2 rfl
 refine ⟨fun hroom => ?_, fun hgrow s' hs' hN => ?_⟩
 ·have hfit : n * esz + esz ≤ cap * esz := by rw [← Nat.succ_mul]; exact Nat.mul_le_mul_right _ hroom
  have hr := run_append_room' (P := c.P) w t ty e ev ie hu hie b n cap vs g3 a2 1 c2 l2 (by rw [len2, q1]) (fun j v hj => (hc2 j v hj).1) (RepL.ones hl2) hroom (by rw [len2, q1]; omega)
  rw [q1] at hr
  refine ⟨_, ρ, hr, h.setBox hb g2 g3 g6 ?_ (by simp [hm]), rfl⟩
  simp only [List.toList_toArray]
  rw [len2, Nat.one_mul]
  exact RepAs.append (RepAs.append (RepAs.take _ g4) (RepAs.undefs' (by rw [len2, Nat.one_mul]))) (RepAs.drop _ g4)
 ·have hb48 : (n + 1) * ie.bytes ≤ 140737488355328 := by rw [q2]; omega
  have hz' := grownCap_le_maxLen w (n + 1) cap e (by unfold maxLen; omega)
  unfold maxLen at hz'
  have hold : ∀ j v, (vs.toList.take (n * esz))[j]? = some v → w.cell? ((⟨b, 0, none⟩ : Addr).add j) = some v := fun j v hj => by
   rw [addr_add, Nat.zero_add, zzi g3]
   simp only [List.getElem?_take, Array.getElem?_toList] at hj
   split at hj
   ·exact hj
   ·cases hj
  have hol : (vs.toList.take (n * esz)).length = n * esz := by simp; omega
  have hr := run_append_grow (P := c.P) w t ty e ie z hu hie q4 ⟨b, 0, none⟩ n cap (vs.toList.take (n * esz)) (by rw [hol, q1]) hold a2 1 c2 l2 (by rw [len2, q1]) (fun j v hj => (hc2 j v hj).1) (by omega) (by omega) (growslice_fits (by omega) hb48)
  have hge := grownCap_ge w (n + 1) cap e
  generalize grownCap w (n + 1) cap e = cap' at hr hge hz'
  generalize hO : (vs.toList.take (n * esz)).toArray ++ l2.toArray ++ Builtin.zeroCells z.cells (cap' - (n + 1)) = O at hr
  have hs0 := h.grow (w' := w.drew) (S' := S) ((Below.refl _ _).drew) (fun _ _ hs => hs) (fun _ _ hs => .inl hs) (fun b o hs => h.live b o hs)
  have hkd : Keeps w S w.drew S := fun b o hs => ⟨hs, rfl⟩
  have hsz : O.toList.length = cap' * esz := by
   rw [← hO]
   simp only [Array.toList_append, List.length_append, hol, len2, Array.length_toList, size_zeroCells, q5]
   have : cap' * esz = n * esz + 1 * esz + (cap' - (n + 1)) * esz := by rw [← Nat.add_mul, ← Nat.add_mul]; congr 1; omega
   omega
  obtain ⟨ρ', hle, hbx, hs1⟩ := hs0.newBox (s := s') hs' hN (cs := cs.take (n * esz) ++ List.replicate (cap' * esz - n * esz) .undef) (cells := O) (by
   have e1 : O.toList = vs.toList.take (n * esz) ++ (l2 ++ (Builtin.zeroCells z.cells (cap' - (n + 1))).toList) := by rw [← hO]; simp
   have e2 : (l2 ++ (Builtin.zeroCells z.cells (cap' - (n + 1))).toList).length = cap' * esz - n * esz := by
    have := hsz; rw [e1, List.length_append, hol] at this; omega
   rw [e1]
   exact RepAs.append (RepAs.keep hkd ρ.le_refl _ _ (RepAs.take _ g4)) (RepAs.undefs' e2)) e
  exact ⟨_, ρ', cap', hge, hz', _, hr, hle, hbx, hs1⟩
theorem ykP (h : Sim c st tmps w S ρ) {t ty : TypeId} {esz eb : Nat} {zs : List AV} (ht : chkTy c.P t (.slice esz eb zs) = true) {ys : List (List D)} (hys : ∀ e ∈ ys, e.length = esz) {s : Nat} {cs : List AV} {b : Nat} (hb : ρ.box s = some b) (hm : getM st.mem s = some cs) {b2 : Option Addr} {m2 c2 : Nat}
  (hy : RdsL w S ys b2 m2 c2) (hpos : 0 < ys.length) (hbytes : ys.length * eb ≤ 2 ^ 46) (h63 : ys.length ≤ 9223372036854775807) {s' : Nat} (hs' : getM st.mem s' = none) (hN : s' < c.N) :
  ∃ w' ρ' cap', ys.length ≤ cap' ∧ cap' ≤ 9223372036854775807 ∧ ∃ b', (Builtin.append_ #[t, t] ty #[.slice (some ⟨b, 0, none⟩) 0 0, .slice b2 m2 c2]).run c.P w = .ok (.slice (some ⟨b', 0, none⟩) ys.length cap') w' ∧
   ρ.le ρ' ∧ ρ'.box s' = some b' ∧ Sim c { st with mem := (s', ys.flatten.map .d ++ List.replicate (cap' * esz - ys.length * esz) .undef) :: st.mem } tmps w' S ρ' := by
 obtain ⟨e, ie, z, hu, hie, q1, q2, q3, q4, q5⟩ := zzv ht
 obtain ⟨rfl, hm2, hcap2, hnil2, l2, hl2, hl2c⟩ := hy
 have len2 : l2.length = ys.length * esz := by
  rw [RepL.length hl2]
  clear hl2 hpos hbytes h63 hm2
  induction ys with
  | nil => simp
  | cons y ys ih =>
   rw [List.flatten_cons, List.length_append, ih fun e he => hys e (by simp [he]), hys y (by simp), List.length_cons, Nat.succ_mul]; omega
 cases b2 with
 | none => have := hnil2 rfl; omega
 | some a2 =>
 obtain ⟨sp2, hc2⟩ := hl2c a2 rfl
 have hb48 : (0 + ys.length) * ie.bytes ≤ 140737488355328 := by rw [q2, Nat.zero_add]; omega
 have hz' := grownCap_le_maxLen w (0 + ys.length) 0 e (by unfold maxLen; omega)
 unfold maxLen at hz'
 have hr := run_append_grow (P := c.P) w t ty e ie z hu hie q4 ⟨b, 0, none⟩ 0 0 [] (by simp) (fun j v hj => by simp at hj) a2 ys.length c2 l2 (by rw [len2, q1]) (fun j v hj => (hc2 j v hj).1) (by omega) (by omega) (growslice_fits (by omega) hb48)
 have hge := grownCap_ge w (0 + ys.length) 0 e
 generalize grownCap w (0 + ys.length) 0 e = cap' at hr hge hz'
 rw [Nat.zero_add] at hr hge
 generalize hO : ([] : List Value).toArray ++ l2.toArray ++ Builtin.zeroCells z.cells (cap' - ys.length) = O at hr
 have hs0 := h.grow (w' := w.drew) (S' := S) ((Below.refl _ _).drew) (fun _ _ hs => hs) (fun _ _ hs => .inl hs) (fun b o hs => h.live b o hs)
 have hkd : Keeps w S w.drew S := fun b o hs => ⟨hs, rfl⟩
 have e1 : O.toList = l2 ++ (Builtin.zeroCells z.cells (cap' - ys.length)).toList := by rw [← hO]; simp
 have e2 : (Builtin.zeroCells z.cells (cap' - ys.length)).toList.length = cap' * esz - ys.length * esz := by
  rw [Array.length_toList, size_zeroCells, q5, Nat.sub_mul]
 obtain ⟨ρ', hle, hbx, hs1⟩ := hs0.newBox (s := s') hs' hN (cs := ys.flatten.map .d ++ List.replicate (cap' * esz - ys.length * esz) .undef) (cells := O) (by
  rw [e1]
  exact RepAs.append (RepL.toAs (RepL.keep hkd _ _ hl2)) (RepAs.undefs' e2)) e
 exact ⟨_, ρ', cap', hge, by omega, _, hr, hle, hbx, hs1⟩
theorem zWi {e : Nat} : ∀ {n : Nat} {cs : List AV} {l : List Value} {ys : List (List D)}, RepAs w S ρ cs l → rowsOf e n cs = some ys → n * e ≤ cs.length → ys.length = n ∧ (∀ y ∈ ys, y.length = e) ∧ RepL w S ys.flatten (l.take (n * e))
 | 0, _, _, _, _, hr, _ => by
  simp only [rowsOf, Option.some.injEq] at hr; subst hr
  exact ⟨rfl, fun y hy => (by cases hy), by simp [RepL]⟩
 | n + 1, cs, l, ys, h, hr, hn => by
  rw [Nat.succ_mul] at hn
  simp only [rowsOf] at hr
  split at hr
  ·rename_i x xs hx hxs
   split at hr
   ·rename_i hl
    cases hr
    obtain ⟨i1, i2, i3⟩ := zWi (n := n) (RepAs.drop e h) hxs (by rw [List.length_drop]; omega)
    have h1 := zkw zyv 1 (RepAs.take e h) hx
    refine ⟨by simp [i1], fun y hy => ?_, ?_⟩
    ·rcases List.mem_cons.1 hy with rfl | hy
     ·exact hl
     ·exact i2 y hy
    ·rw [List.flatten_cons, Nat.succ_mul, Nat.add_comm, List.take_add]
     exact RepL.append h1 i3
   ·cases hr
  ·cases hr
theorem zXB (h : Sim c st tmps w S ρ) {a : AV} {v : Value} {ys : List (List D)} (ha : RepA w S ρ a v) (he : a.elemsM st.mem = some ys) : ∃ b2 m2 c2, v = .slice b2 m2 c2 ∧ RdsL w S ys b2 m2 c2 := by
 have gen : a.elems = some ys → ∃ b2 m2 c2, v = .slice b2 m2 c2 ∧ RdsL w S ys b2 m2 c2 := fun he => by
  have e2 := zwF ha he
  have hyv : ∃ b2 m2 c2, v = .slice b2 m2 c2 := by obtain ⟨b2, c2, hv2, _⟩ := e2; exact ⟨b2, _, c2, hv2⟩
  obtain ⟨b2, m2, c2, rfl⟩ := hyv
  exact ⟨b2, m2, c2, rfl, .of e2⟩
 cases a with
 | vec s e off n cap =>
  simp only [AV.elemsM] at he
  split at he
  ·rename_i cs hcs
   split at he
   ·rename_i hlen
    obtain ⟨k1, k2, b, hb, rfl⟩ := ha
    obtain ⟨b', vs, ev, g1, g2, g3, g4, g6⟩ := h.mem s cs hcs (h.noMp hb hcs)
    obtain rfl := Option.some.inj (hb.symm.trans g1)
    obtain ⟨i1, i2, i3⟩ := zWi (RepAs.drop off g4) he (by rw [List.length_drop]; omega)
    refine ⟨_, _, _, rfl, i1.symm, k1, k2, fun e => (by cases e), _, i3, fun a ha => ?_⟩
    cases ha
    refine ⟨fun _ => rfl, fun j v hj => ⟨?_, trivial⟩⟩
    rw [addr_add, zzi g3]
    simp only [List.getElem?_take, List.getElem?_drop, Array.getElem?_toList] at hj
    split at hj
    ·exact hj
    ·cases hj
   ·cases he
  ·cases he
 | _ => exact gen he
theorem yyM (h : Sim c st tmps w S ρ) {o : Oper} {t t' : TypeId} {esz eb : Nat} {zs : List AV} (ht : chkTy c.P t (.slice esz eb zs) = true) {x : Operand} {x' : X} {ds : List Deferred}
  (ho : o.op = .binOp .eql t x (.const (.slice none 0 0)) t') (hx : trX x = some x') (hg : gd st x' = true) (he : (ev st x').isVec = true) :
  (execOp (Act.eval ⟨tmps, ds⟩) o).run c.P w = .ok (.value (.bool false)) w := by
 have e1 := h.ev hx hg (ds := ds)
 obtain ⟨e, ie, z, hu, _⟩ := zzv ht
 cases hv : ev st x' with
 | vec s e off n cap =>
  rw [hv] at e1
  obtain ⟨_, _, b, _, hv⟩ := e1
  unfold execOp
  simp only [ho]
  refine run_v (v := _) (w' := w) ?_
  rw [hv]
  have hev : Act.eval ⟨tmps, ds⟩ (.const (.slice none 0 0)) = .slice none 0 0 := rfl
  rw [hev]
  have : (Op.equal t (.slice (some ⟨b, off, none⟩) n cap) (.slice none 0 0)).run c.P w = .ok false w := by
   unfold Op.equal
   have : Op.maxDepth = (Op.maxDepth - 1) + 1 := by decide
   rw [this]
   unfold Op.equalIn
   simp [run_underlying hu]
  simp [eqGuard_at_slice, binOp, this]
 | _ => rw [hv] at he; cases he
end Go.Abs
end
section
namespace Go.Abs
open Go.RowKit
variable {c : Ctx} {st : St} {tmps : Array Value} {w : World} {S : Safe} {ρ : Rho}
theorem zK2 (h : Sim c st tmps w S ρ) {o : Oper} {t : TypeId} {esz eb : Nat} {zs : List AV} (ht : chkTy c.P t (.slice esz eb zs) = true) {x : Operand} {x' : X} {tys : List TypeId} {ds : List Deferred}
  (ho : o.op = .call { callee := .builtin .len, args := #[x], argTypes := (t :: tys).toArray }) (hx : trX x = some x') (hg : gd st x' = true) {n : Nat} (hn : lenOf false (ev st x') = some n) :
  (execOp (Act.eval ⟨tmps, ds⟩) o).run c.P w = .ok (.value (.int .i64 n)) w ∧ (n : Int) ≤ 9223372036854775807 := by
 have e1 := h.ev hx hg (ds := ds)
 obtain ⟨e, ie, z, hu, _⟩ := zzv ht
 refine ⟨?_, zJ8 e1 hn⟩
 have : ∃ base cap, Act.eval ⟨tmps, ds⟩ x = .slice base n cap := by
  unfold lenOf at hn
  split at hn <;> first | (cases hn; done) | skip
  ·rename_i h1 h2; cases h1
  ·rename_i h1 h2; cases hn; rw [h2] at e1; obtain ⟨b, cp, hv, _⟩ := e1; exact ⟨b, cp, hv⟩
  ·rename_i h1 h2; cases hn; rw [h2] at e1; obtain ⟨⟨b, cp, hv, _⟩, _⟩ := e1; exact ⟨b, cp, hv⟩
  ·rename_i h1 h2; cases hn; rw [h2] at e1; obtain ⟨⟨b, cp, hv, _⟩, _⟩ := e1; exact ⟨b, cp, hv⟩
  ·rename_i h1 h2; cases hn; rw [h2] at e1; obtain ⟨_, _, b, _, hv⟩ := e1; exact ⟨_, _, hv⟩
 obtain ⟨base, cap, hv⟩ := this
 unfold execOp
 simp [ho, resolve, invoke, builtin, Builtin.len_, hv, run_underlying hu, goInt]
theorem yza (h : Sim c st tmps w S ρ) {o : Oper} {t : TypeId} (ht : chkTy c.P t (.cell (.d (.str []))) = true) {x : Operand} {x' : X} {tys : List TypeId} {ds : List Deferred}
  (ho : o.op = .call { callee := .builtin .len, args := #[x], argTypes := (t :: tys).toArray }) (hx : trX x = some x') (hg : gd st x' = true) {n : Nat} (hn : lenOf true (ev st x') = some n) :
  (execOp (Act.eval ⟨tmps, ds⟩) o).run c.P w = .ok (.value (.int .i64 n)) w ∧ (n : Int) ≤ 9223372036854775807 := by
 have e1 := h.ev hx hg (ds := ds)
 have hu : c.P.underlying t = some .string := by
  simp only [chkTy, Bool.and_eq_true, undOk] at ht
  have := ht.1.1
  split at this <;> simp_all
 refine ⟨?_, zJ8 e1 hn⟩
 have : ∃ s : ByteArray, Act.eval ⟨tmps, ds⟩ x = .string s ∧ s.size = n := by
  unfold lenOf at hn
  split at hn <;> first | (cases hn; done) | skip
  ·rename_i h1 h2; cases hn; rw [h2] at e1; obtain ⟨s, hv, rfl, _⟩ := e1; exact ⟨s, hv, by simp⟩
  ·rename_i h1 h2; cases h1
  ·rename_i h1 h2; cases h1
  ·rename_i h1 h2; cases h1
  ·rename_i h1 h2; cases h1
 obtain ⟨s, hv, hs⟩ := this
 unfold execOp
 simp [ho, resolve, invoke, builtin, Builtin.len_, hv, run_underlying hu, goInt, hs]
theorem ywt (h : Sim c st tmps w S ρ) {o : Oper} {t t' : TypeId} {esz eb : Nat} {zs : List AV} (ht : chkTy c.P t (.slice esz eb zs) = true) {x : Operand} {x' : X} {ds : List Deferred}
  (ho : o.op = .binOp .eql t x (.const (.slice none 0 0)) t') (hx : trX x = some x') (hg : gd st x' = true) {es : List (List D)} (he : (ev st x').elems = some es) :
  ∃ b : Bool, (execOp (Act.eval ⟨tmps, ds⟩) o).run c.P w = .ok (.value (.bool b)) w ∧ (b = true → es = []) := by
 have e1 := zwF (h.ev hx hg (ds := ds)) he
 obtain ⟨e, ie, z, hu, _⟩ := zzv ht
 obtain ⟨base, cap, hv, h1, h2, h3, _⟩ := e1
 refine ⟨base.isNone, ?_, fun hb => ?_⟩
 ·unfold execOp
  simp only [ho]
  refine run_v (v := _) (w' := w) ?_
  rw [hv]
  have hev : Act.eval ⟨tmps, ds⟩ (.const (.slice none 0 0)) = .slice none 0 0 := rfl
  rw [hev]
  have : (Op.equal t (.slice base es.length cap) (.slice none 0 0)).run c.P w = .ok base.isNone w := by
   unfold Op.equal
   have : Op.maxDepth = (Op.maxDepth - 1) + 1 := by decide
   rw [this]
   unfold Op.equalIn
   cases base <;> simp [run_underlying hu]
  simp [eqGuard_at_slice, binOp, this]
 ·have : base = none := by cases base <;> simp_all
  have := h3 this
  exact List.eq_nil_of_length_eq_zero (by omega)
def Goes (c : Ctx) (K : St → Prop) : Act → World → Prop := fun a w => a.defers = c.ds ∧ ∃ st S ρ, Sim c st a.tmps w S ρ ∧ K st
theorem zzf {o : Oper} {cv : Value} {w' : World} {S' : Safe} {ρ' : Rho} (hrun : (execOp (Act.eval ⟨tmps, c.ds⟩) o).run c.P w = .ok (.value cv) w') (hs : Sim c st tmps w' S' ρ') {v : AV} (hv : RepA w' S' ρ' v cv) {d : Nat} (hd : o.dst = some d) (hN : c.D d)
  {g : Option Bool} (hg : g = none ∨ g = some true) {K : St → Prop} (hK : K (st.put g d v)) (Q : Exit → Act → World → Prop) : o.wp c.P ⟨tmps, c.ds⟩ w (Goes c K) Q := by
 unfold Oper.wp
 rw [hrun]
 simp only [Oper.upon_value, Act.put, hd]
 refine ⟨rfl, _, _, _, hs.put hN hv g ?_, hK⟩
 rintro b hb rfl
 rcases hg with hg | hg <;> rw [hg] at hb <;> cases hb
theorem zzk {g : Option Bool} (hg : g = none ∨ g = some true) {p : Prop} (h : onG g p) : p := by
 rcases hg with rfl | rfl
 ·exact h
 ·exact h rfl
theorem zza {α : Type} {x : Option α} {f : α → Option I} {i : I} (h : (x >>= f) = some i) : ∃ a, x = some a ∧ f a = some i := by
 cases x with
 | none => cases h
 | some a => exact ⟨a, rfl, h⟩
variable {E : AEnv} {T : Nat → Option Ty}
theorem RepR.ren {ρ1 ρ2 : Rho} {σ τ1 : TMap} (hbx : ∀ s b, ρ1.box s = some b → ∃ s', getTM σ s = some s' ∧ ρ2.box s' = some b) {r : CV} {v : Value} (h : RepR w S ρ1 r v) : RepA w S ρ2 (r.toAV0.ren0 σ τ1) v := by
 cases r with
 | vr s e o n cap =>
  obtain ⟨k1, k2, b, h1, h2⟩ := h
  obtain ⟨s', e1, e2⟩ := hbx s b h1
  simp only [CV.toAV0, AV.ren0, e1, Option.getD_some]
  exact ⟨k1, k2, b, e2, h2⟩
 | one x => exact h
 | agg xs => exact RepC.toAV (r := .agg xs) h
 | tup vs => exact RepC.toAV (r := .tup vs) h
 | own a sz es => exact RepC.toAV (r := .own a sz es) h
 | bx => exact h.elim
 | vc => exact h.elim
theorem zv2 (hC : ∀ f args r, E.C f args r → Ev c.P c.G f args r) (h : Sim c st tmps w S ρ) {o : Oper} {f : Operand} {args : Array Operand} {argTypes : Array TypeId} (hop : o.op = .call { callee := .value f, args := args, argTypes := argTypes })
  {xs : List X} (hxs : trXs args.toList = some xs) (hdst : ∀ d, o.dst = some d → c.D d) {fid : FuncId} {cs : Array Value} (hv : Act.eval ⟨tmps, c.ds⟩ f = .func (.func fid) #[] cs) {caps : List AV} (hcaps : RepAs w S ρ caps cs.toList) {g : Option Bool} {gs : Bool} (hgs : gs = true → gds st xs = true)
  {x : BArgs} (hb : callB1 E g fid gs (evs st xs ++ caps) st x) {K : St → Prop} (hK : K (afterB st o.dst x)) (Q : Exit → Act → World → Prop) : o.wp c.P ⟨tmps, c.ds⟩ w (Goes c K) Q := by
 obtain ⟨_, hgs1, _, ⟨o1, o2, o3, o4, o5, o6, o7, o8, o9, o10, o11, o12⟩, hCr⟩ := hb
 have hgs := hgs hgs1
 have hEv : EvB c.P c.G fid x.as0 x.m0 (tkOf x.τ) x.r x.m1 (tkOf x.τ1) := hC _ _ _ hCr
 obtain ⟨fn, hfn, hname, hbody⟩ := hEv.1
 obtain ⟨_, _, g3⟩ := o2.get
 have hrun : (execOp (Act.eval ⟨tmps, c.ds⟩) o).run c.P w = .ok (.enter fid (args.map (Act.eval ⟨tmps, c.ds⟩) ++ cs)) w := by
  unfold execOp
  simp only [hop]
  have hname' : ¬ fn.name = "runtime.NumGoroutine" := by simpa using hname
  have hbody' : ¬ fn.body = none := by intro e; simp [e] at hbody
  simp [resolve, invoke, callFunc, Deferred.ofValue, hv, hfn, hname', hbody']
 unfold Oper.wp
 rw [hrun, Oper.upon_enter]
 have hpinned : ∀ (r : Nat → Option Nat) (p : Nat × Nat), p ∈ x.σ.filterMap (fun q => (r q.2).map fun b => (q.1, b)) → 1000 ≤ p.1 := fun r p hp => by
  obtain ⟨q, hq, e⟩ := List.mem_filterMap.1 hp
  rw [Option.map_eq_some_iff] at e
  obtain ⟨b0, _, rfl⟩ := e
  exact (g3 q hq).1
 have hlisted : ∀ (r : Nat → Option Nat) (s b : Nat), (getTM x.σ s).bind r = some b → (s, b) ∈ x.σ.filterMap (fun q => (r q.2).map fun b => (q.1, b)) := fun r s b hb => by
  rw [Option.bind_eq_some_iff] at hb
  obtain ⟨u, e1, e2⟩ := hb
  exact List.mem_filterMap.2 ⟨(s, u), zyD e1, by simp only [e2, Option.map_some]⟩
 refine (hEv.2 w S (args.map (Act.eval ⟨tmps, c.ds⟩) ++ cs) _ _ _ _ (h.handB o2 o3 o4 o5) (hpinned ρ.box) (hpinned ρ.mbox) (hlisted ρ.box) (hlisted ρ.mbox) (by
  have := MatchVs.sound (RepAs.append (h.evs (ds := c.ds) hxs hgs) hcaps) o1
  simpa using this)).mono ?_
 rintro e w' ⟨v, S', ρ', rfl, hr, h1⟩
 obtain ⟨ρ2, ⟨hle, hbx⟩, hs⟩ := h.gotB o2 o3 o4 o5 o6 o7 o8 o9 o10 o11 o12 h1
 simp only [Act.put]
 cases hd : o.dst with
 | none =>
  rw [hd] at hK
  exact ⟨rfl, _, _, _, hs, hK⟩
 | some d =>
  rw [hd] at hK
  refine ⟨rfl, _, _, _, hs.put (hdst d hd) (RepR.ren hbx hr) none (fun b hb => by cases hb), hK⟩
theorem ywy (hG : E.G = c.G) (hC : ∀ f args r, E.C f args r → Ev c.P c.G f args r) (hT : ∀ t ty, T t = some ty → chkTy c.P t ty = true) (h : Sim c st tmps w S ρ) {o : Oper} {i : I}
  (htr : trOp T o.dst o.op = some i) (hdst : ∀ d, o.dst = some d → c.D d) {g : Option Bool} (hg : g = none ∨ g = some true) {K : St → Prop} (hK : aopG E g i st K) (Q : Exit → Act → World → Prop) : o.wp c.P ⟨tmps, c.ds⟩ w (Goes c K) Q := by
 cases hop : o.op <;> rw [hop] at htr <;> simp only [trOp, Option.bind_eq_bind, Option.pure_def, reduceCtorEq] at htr
 case move x =>
  obtain ⟨d, hd, htr⟩ := zza htr
  obtain ⟨x', hx, htr⟩ := zza htr
  cases htr
  simp only [aopG, opv] at hK
  obtain ⟨hgs, _⟩ := zzk hg hK.1
  obtain ⟨cv, hrun, hrep⟩ := yyN h (.inl hop) hx hgs
  exact zzf hrun h hrep hd (hdst d hd) hg hK.2 Q
 case assign x =>
  obtain ⟨d, hd, htr⟩ := zza htr
  obtain ⟨x', hx, htr⟩ := zza htr
  cases htr
  simp only [aopG, opv] at hK
  obtain ⟨hgs, _⟩ := zzk hg hK.1
  obtain ⟨cv, hrun, hrep⟩ := yyN h (.inr hop) hx hgs
  exact zzf hrun h hrep hd (hdst d hd) hg hK.2 Q
 case pick x y z =>
  obtain ⟨d, hd, htr⟩ := zza htr
  unfold trPick at htr
  split at htr
  ·obtain ⟨x', hx, htr⟩ := zza htr
   obtain ⟨y', hy, htr⟩ := zza htr
   cases htr
   simp only [aopG, opv] at hK
   split at hK
   ·rename_i v ob gs hr
    split at hr
    ·rename_i p q hp hq
     cases hr
     obtain ⟨hgs, hob⟩ := zzk hg hK.1
     obtain ⟨cv, hrun, hrep⟩ := yvo h hop hx hy hp hq hgs hob
     exact zzf hrun h hrep hd (hdst d hd) hg hK.2 Q
    ·rename_i p hp _
     cases hr
     obtain ⟨hgs, hob⟩ := zzk hg hK.1
     obtain ⟨cv, hrun, hrep⟩ := ykN h hop hx hp hgs hob
     exact zzf hrun h hrep hd (hdst d hd) hg hK.2 Q
    ·cases hr
   ·exact hK.elim
  ·obtain ⟨x', hx, htr⟩ := zza htr
   obtain ⟨y', hy, htr⟩ := zza htr
   cases htr
   simp only [aopG, opv] at hK
   split at hK
   ·rename_i v ob gs hr
    split at hr
    ·rename_i p q hp hq
     cases hr
     obtain ⟨hgs, hob⟩ := zzk hg hK.1
     obtain ⟨cv, hrun, hrep⟩ := ok_or h hop hx hy hp hq hgs hob
     exact zzf hrun h hrep hd (hdst d hd) hg hK.2 Q
    ·rename_i p hp _
     cases hr
     obtain ⟨hgs, hob⟩ := zzk hg hK.1
     obtain ⟨cv, hrun, hrep⟩ := yvG h hop hx hp hgs hob
     exact zzf hrun h hrep hd (hdst d hd) hg hK.2 Q
    ·cases hr
   ·exact hK.elim
  ·cases htr
 case binOp op t x y t' =>
  unfold trBin at htr
  split at htr
  ·obtain ⟨ty, hty, htr⟩ := zza htr
   split at htr
   ·rename_i esz eb zs
    obtain ⟨d, hd, htr⟩ := zza htr
    obtain ⟨x', hx, htr⟩ := zza htr
    cases htr
    simp only [aopG] at hK
    split at hK
    ·rename_i es hes
     have hgx := zzk hg hK.1
     obtain ⟨b, hrun, hb⟩ := ywt h (hT _ _ hty) hop hx hgx hes (ds := c.ds)
     exact zzf (v := .d (.bool b)) hrun h rfl hd (hdst d hd) hg (hK.2 b hb) Q
    ·have hgx := zzk hg hK.2.1
     exact zzf (v := .d (.bool false)) (yyM h (hT _ _ hty) hop hx hgx hK.1 (ds := c.ds)) h rfl hd (hdst d hd) hg hK.2.2 Q
   ·cases htr
  rename_i op y _
  split at htr
  ·rename_i hbb
   simp only [Bool.and_eq_true] at hbb
   obtain ⟨d, hd, htr⟩ := zza htr
   obtain ⟨x', hx, htr⟩ := zza htr
   obtain ⟨y', hy, htr⟩ := zza htr
   cases htr
   have hu : c.P.underlying t = some .bool := by
    have h2 := hbb.2
    unfold isBoolT at h2
    split at h2
    ·rename_i b hty
     have := hT _ _ hty
     simp only [chkTy, Bool.and_eq_true, undOk] at this
     have := this.1.1
     split at this <;> simp_all
    ·cases h2
   simp only [aopG, opv] at hK
   split at hK
   ·rename_i v ob gs hr
    split at hr
    ·rename_i p q hp hq
     cases hr
     obtain ⟨hgs, _⟩ := zzk hg hK.1
     simp only [Bool.and_eq_true] at hgs
     obtain ⟨cv, hrun, hrep⟩ := yvp h hu hop hbb.1 hx hy hgs.1 hgs.2 hp hq
     exact zzf hrun h hrep hd (hdst d hd) hg hK.2 Q
    ·cases hr
   ·exact hK.elim
  split at htr
  ·rename_i _ hff
   simp only [Bool.and_eq_true] at hff
   obtain ⟨d, hd, htr⟩ := zza htr
   obtain ⟨x', hx, htr⟩ := zza htr
   obtain ⟨y', hy, htr⟩ := zza htr
   cases htr
   simp only [aopG, opv] at hK
   split at hK
   ·rename_i v ob gs hr
    split at hr
    ·rename_i a b hp hq
     split at hr
     ·rename_i xs ys ha hb
      cases hr
      obtain ⟨hgs, hob⟩ := zzk hg hK.1
      simp only [Bool.and_eq_true] at hgs
      obtain ⟨cv, hrun, hrep⟩ := yvn h (yxW hT hff.2) hop hff.1 hx hy hgs.1 hgs.2 hp hq ha hb hob
      exact zzf hrun h hrep hd (hdst d hd) hg hK.2 Q
     ·cases hr
    ·cases hr
   ·exact hK.elim
  split at htr
  ·rename_i _ _ hii
   simp only [Bool.and_eq_true] at hii
   obtain ⟨d, hd, htr⟩ := zza htr
   obtain ⟨x', hx, htr⟩ := zza htr
   cases htr
   obtain ⟨ms, hu⟩ : ∃ ms, c.P.underlying t = some (.interface ms) := by
    have h2 := hii.1.2
    unfold isIfcT at h2
    split at h2
    ·rename_i hty
     have := hT _ _ hty
     simp only [chkTy, Bool.and_eq_true, undOk] at this
     have := this.1.1
     split at this <;> simp_all
    ·cases h2
   have hyn := yyt hii.2
   subst hyn
   simp only [aopG, opv] at hK
   split at hK
   ·rename_i v ob gs hr
    split at hr
    ·rename_i hp
     cases hr
     obtain ⟨hgs, _⟩ := zzk hg hK.1
     obtain ⟨cv, hrun, hrep⟩ := ykd h hu hop hii.1.1 hx hgs (p := true) hp
     exact zzf hrun h hrep hd (hdst d hd) hg hK.2 Q
    ·rename_i hp
     cases hr
     obtain ⟨hgs, _⟩ := zzk hg hK.1
     obtain ⟨cv, hrun, hrep⟩ := ykd h hu hop hii.1.1 hx hgs (p := false) hp
     exact zzf hrun h hrep hd (hdst d hd) hg hK.2 Q
    ·cases hr
   ·exact hK.elim
  obtain ⟨d, hd, htr⟩ := zza htr
  obtain ⟨x', hx, htr⟩ := zza htr
  obtain ⟨y', hy, htr⟩ := zza htr
  cases htr
  simp only [aopG, opv] at hK
  split at hK
  ·rename_i v ob gs hr
   split at hr
   ·rename_i r hrr
    cases hr
    obtain ⟨hgs, hob⟩ := zzk hg hK.1
    simp only [Bool.and_eq_true] at hgs
    obtain ⟨cv, hrun, hrep⟩ := yvq h hop hx hy hgs.1 hgs.2 hrr hob
    exact zzf hrun h hrep hd (hdst d hd) hg hK.2 Q
   ·cases hr
  ·exact hK.elim
 case nilCheck x =>
  obtain ⟨d, hd, htr⟩ := zza htr
  obtain ⟨x', hx, htr⟩ := zza htr
  cases htr
  simp only [aopG, opv] at hK
  split at hK
  ·rename_i v ob gs hr
   split at hr
   ·rename_i s off hb
    cases hr
    obtain ⟨hgs, _⟩ := zzk hg hK.1
    obtain ⟨cv, hrun, hrep⟩ := yvD h hop hx hgs hb
    exact zzf hrun h hrep hd (hdst d hd) hg hK.2 Q
   ·cases hr
  ·exact hK.elim
 case unOp u t x =>
  unfold trUn at htr
  cases u
  case neg =>
   obtain ⟨ty, hty, htr⟩ := zza htr
   split at htr
   ·rename_i k
    obtain ⟨d, hd, htr⟩ := zza htr
    obtain ⟨x', hx, htr⟩ := zza htr
    cases htr
    have hev : ev st (.c (.d (.int k 0))) = .d (.int k 0) := rfl
    simp only [aopG, opv, hev] at hK
    split at hK
    ·rename_i v ob gs hr
     split at hr
     ·rename_i r hrr
      cases hr
      obtain ⟨hgs, hob⟩ := zzk hg hK.1
      simp only [Bool.and_eq_true] at hgs
      obtain ⟨cv, hrun, hrep⟩ := yvE h hop hx hgs.2 hrr hob
      exact zzf hrun h hrep hd (hdst d hd) hg hK.2 Q
     ·cases hr
    ·exact hK.elim
   ·cases htr
  case not =>
   obtain ⟨d, hd, htr⟩ := zza htr
   obtain ⟨x', hx, htr⟩ := zza htr
   cases htr
   simp only [aopG, opv] at hK
   split at hK
   ·rename_i v ob gs hr
    split at hr
    ·rename_i b hb
     cases hr
     obtain ⟨hgs, _⟩ := zzk hg hK.1
     obtain ⟨cv, hrun, hrep⟩ := yvF h hop hx hgs hb
     exact zzf hrun h hrep hd (hdst d hd) hg hK.2 Q
    ·cases hr
   ·exact hK.elim
  all_goals cases htr
 case build t parts =>
  obtain ⟨ty, hty, htr⟩ := zza htr
  split at htr
  ·rename_i zs fs
   obtain ⟨d, hd, htr⟩ := zza htr
   obtain ⟨xs, hxs, htr⟩ := zza htr
   cases htr
   simp only [aopG, opv] at hK
   split at hK
   ·rename_i v ob gs hr
    split at hr
    ·rename_i cs hcs
     cases hr
     obtain ⟨hgs, _⟩ := zzk hg hK.1
     obtain ⟨cv, hrun, hrep⟩ := yws h (hT _ _ hty) hop hxs hgs hcs
     exact zzf hrun h hrep hd (hdst d hd) hg hK.2 Q
    ·cases hr
   ·exact hK.elim
  ·rename_i n esz eagg zs
   obtain ⟨d, hd, htr⟩ := zza htr
   obtain ⟨xs, hxs, htr⟩ := zza htr
   cases htr
   simp only [aopG, opv] at hK
   split at hK
   ·rename_i v ob gs hr
    split at hr
    ·rename_i cs hcs
     cases hr
     obtain ⟨hgs, _⟩ := zzk hg hK.1
     obtain ⟨cv, hrun, hrep⟩ := yyL h (hT _ _ hty) hop hxs hgs hcs
     exact zzf hrun h hrep hd (hdst d hd) hg hK.2 Q
    ·cases hr
   ·exact hK.elim
  ·cases htr
 case field t x i =>
  obtain ⟨ty, hty, htr⟩ := zza htr
  split at htr
  ·rename_i zs fs
   obtain ⟨fd, hfd, htr⟩ := zza htr
   obtain ⟨d, hd, htr⟩ := zza htr
   obtain ⟨x', hx, htr⟩ := zza htr
   cases htr
   simp only [aopG, opv] at hK
   split at hK
   ·rename_i v ob gs hr
    split at hr
    ·rename_i cs hs
     cases hr
     obtain ⟨hgs, hob⟩ := zzk hg hK.1
     obtain ⟨cv, hrun, hrep⟩ := yvw h (hT _ _ hty) hop hx hfd hgs hs hob
     exact zzf hrun h hrep hd (hdst d hd) hg hK.2 Q
    ·cases hr
   ·exact hK.elim
  ·cases htr
 case buildSlice t n parts =>
  obtain ⟨ty, hty, htr⟩ := zza htr
  split at htr
  ·rename_i esz eb zs
   split at htr
   ·rename_i hcond
    split at htr
    ·rename_i hzel
     obtain ⟨d, hd, htr⟩ := zza htr
     obtain ⟨x', hx, htr⟩ := zza htr
     cases htr
     simp only [aopG, opv] at hK
     split at hK
     ·rename_i v ob gs hr
      split at hr
      ·rename_i es hes
       cases hr
       obtain ⟨hgs, _⟩ := zzk hg hK.1
       have hone : ∃ p, parts.toList = [p] := by
        unfold isZel at hzel
        split at hzel
        ·rename_i q vs hq; exact ⟨_, hq⟩
        ·cases hzel
       obtain ⟨p, hp⟩ := hone
       have hxs : trXs (parts.toList.map (·.2)) = some [x'] := by
        rw [hp] at hx ⊢
        have hx : trX p.2 = some x' := hx
        simp [trXs, hx]
       obtain ⟨cv, w', S', hrun, hs', hrep⟩ := ykR h (hT _ _ hty) hop hcond.1 hxs hgs hes hcond.2 (ds := c.ds)
       exact zzf hrun hs' hrep hd (hdst d hd) hg hK.2 Q
      ·cases hr
     ·exact hK.elim
    split at htr
    ·obtain ⟨d, hd, htr⟩ := zza htr
     obtain ⟨xs, hxs, htr⟩ := zza htr
     cases htr
     simp only [aopG] at hK
     split at hK
     ·rename_i es hes
      obtain ⟨⟨rfl, g1, g2, g3⟩, hK⟩ := hK
      obtain ⟨cv, w', ρ', hrun, hs, hrep⟩ := ykQ h (hT _ _ hty) hop hcond.1 hxs g1 hes hcond.2 g2 (hdst d hd).1 g3 (ds := c.ds)
      exact zzf hrun hs hrep hd (hdst d hd) (.inl rfl) hK Q
     ·exact hK.elim
    obtain ⟨d, hd, htr⟩ := zza htr
    obtain ⟨xs, hxs, htr⟩ := zza htr
    cases htr
    simp only [aopG, opv] at hK
    split at hK
    ·rename_i v ob gs hr
     split at hr
     ·rename_i es hes
      cases hr
      obtain ⟨hgs, _⟩ := zzk hg hK.1
      obtain ⟨cv, w', S', hrun, hs', hrep⟩ := ykc h (hT _ _ hty) hop hcond.1 hxs hgs hes hcond.2
      exact zzf hrun hs' hrep hd (hdst d hd) hg hK.2 Q
     ·cases hr
    ·exact hK.elim
   ·cases htr
  ·cases htr
 case fieldAddr t x i =>
  obtain ⟨ty, hty, htr⟩ := zza htr
  split at htr
  ·rename_i zs fs
   obtain ⟨fd, hfd, htr⟩ := zza htr
   obtain ⟨d, hd, htr⟩ := zza htr
   obtain ⟨x', hx, htr⟩ := zza htr
   cases htr
   simp only [aopG] at hK
   split at hK
   ·rename_i v ob gs hr
    obtain ⟨hgs, hob⟩ := zzk hg hK.1
    have hgd : gd st x' = true := by
     simp only [opv] at hr
     split at hr <;> first | (cases hr; done) | (cases hr; exact hgs)
    have hr' : opv c.G st (.fa 0 fd.1 x') = some (v, ob, gs) := by rw [← hG, ← hr]; simp only [opv]
    obtain ⟨cv, hrun, hrep⟩ := ok_fa h (hT _ _ hty) hop hx hfd hgd hr' hob
    exact zzf hrun h hrep hd (hdst d hd) hg hK.2 Q
   ·exact hK.elim
  ·cases htr
 case load t x =>
  obtain ⟨ty, hty, htr⟩ := zza htr
  obtain ⟨d, hd, htr⟩ := zza htr
  obtain ⟨x', hx, htr⟩ := zza htr
  cases htr
  simp only [aopG] at hK
  split at hK
  ·rename_i v ob gs hr
   obtain ⟨hgs, hob⟩ := zzk hg hK.1
   have hgd : gd st x' = true := by
    simp only [opv] at hr
    repeat' split at hr
    all_goals first | (cases hr; done) | (cases hr; exact hgs)
   have hr' : opv c.G st (.ld 0 (tyAgg ty) (tySize ty) x') = some (v, ob, gs) := by rw [← hG, ← hr]; simp only [opv]
   obtain ⟨cv, hrun, hrep⟩ := ok_ld h (hT _ _ hty) hop hx hgd hr' hob
   exact zzf hrun h hrep hd (hdst d hd) hg hK.2 Q
  ·exact hK.elim
 case indexAddr t x y =>
  obtain ⟨ty, hty, htr⟩ := zza htr
  split at htr
  ·rename_i esz eb zs
   obtain ⟨d, hd, htr⟩ := zza htr
   obtain ⟨x', hx, htr⟩ := zza htr
   obtain ⟨y', hy, htr⟩ := zza htr
   cases htr
   simp only [aopG, opv] at hK
   split at hK
   ·rename_i v ob gs hr
    split at hr
    ·rename_i r hr'
     cases hr
     obtain ⟨hgs, hob⟩ := zzk hg hK.1
     simp only [Bool.and_eq_true] at hgs
     unfold idxA at hr'
     split at hr'
     ·rename_i s e off m cap k n he hn
      cases hr'
      obtain ⟨hob1, rfl⟩ := hob
      obtain ⟨cv, hrun, hrep⟩ := ykT h (hT _ _ hty) hop hx hy hgs.1 hgs.2 he hn hob1
      exact zzf hrun h hrep hd (hdst d hd) hg hK.2 Q
     ·rename_i tk sz es k n he hn
      cases hr'
      obtain ⟨hob1, rfl⟩ := hob
      obtain ⟨cv, hrun, hrep⟩ := ykS h (hT _ _ hty) hop hx hy hgs.1 hgs.2 he hn hob1
      exact zzf hrun h hrep hd (hdst d hd) hg hK.2 Q
     ·split at hr'
      ·rename_i k n hn _ _ _ es hes
       cases hr'
       obtain ⟨cv, hrun, hrep⟩ := yvx h (hT _ _ hty) hop hx hy hgs.1 hgs.2 hes hn hob
       exact zzf hrun h hrep hd (hdst d hd) hg hK.2 Q
      ·cases hr'
     ·cases hr'
    ·cases hr
   ·exact hK.elim
  ·rename_i n esz eagg zs
   obtain ⟨d, hd, htr⟩ := zza htr
   obtain ⟨x', hx, htr⟩ := zza htr
   obtain ⟨kk, k, rfl, hk, rfl⟩ := zWl htr
   simp only [aopG] at hK
   split at hK
   ·rename_i v ob gs hr
    obtain ⟨hgs, hob⟩ := zzk hg hK.1
    have hgd : gd st x' = true := by
     simp only [opv] at hr
     split at hr <;> first | (cases hr; done) | (cases hr; exact hgs)
    have hr' : opv c.G st (.fa 0 (k.toNat * esz) x') = some (v, ob, gs) := by rw [← hG, ← hr]; simp only [opv]
    obtain ⟨cv, hrun, hrep⟩ := ok_ia h (hT _ _ hty) hop hx hk hgd hr' hob
    exact zzf hrun h hrep hd (hdst d hd) hg hK.2 Q
   ·exact hK.elim
  ·cases htr
 case index t x y =>
  obtain ⟨ty, hty, htr⟩ := zza htr
  split at htr
  ·obtain ⟨d, hd, htr⟩ := zza htr
   obtain ⟨x', hx, htr⟩ := zza htr
   obtain ⟨y', hy, htr⟩ := zza htr
   cases htr
   simp only [aopG, opv] at hK
   split at hK
   ·rename_i v ob gs hr
    split at hr
    ·rename_i s k n hs hn
     cases hr
     obtain ⟨hgs, hob⟩ := zzk hg hK.1
     simp only [Bool.and_eq_true] at hgs
     obtain ⟨cv, hrun, hrep⟩ := ykZ h (hT _ _ hty) hop hx hy hgs.1 hgs.2 hs hn hob
     exact zzf hrun h hrep hd (hdst d hd) hg hK.2 Q
    ·cases hr
   ·exact hK.elim
  ·rename_i m zs
   obtain ⟨d, hd, htr⟩ := zza htr
   obtain ⟨x', hx, htr⟩ := zza htr
   obtain ⟨y', hy, htr⟩ := zza htr
   cases htr
   simp only [aopG, opv] at hK
   split at hK
   ·rename_i v ob gs hr
    split at hr
    ·rename_i s k n hs hn
     cases hr
     obtain ⟨hgs, hob⟩ := zzk hg hK.1
     simp only [Bool.and_eq_true] at hgs
     obtain ⟨cv, hrun, hrep⟩ := ykM h (hT _ _ hty) hop hx hy hgs.1 hgs.2 hs hn hob
     exact zzf hrun h hrep hd (hdst d hd) hg hK.2 Q
    ·cases hr
   ·exact hK.elim
  ·cases htr
 case slice t x lo hi mx =>
  cases mx with
  | some mx =>
   cases hi with
   | none => cases htr
   | some hi =>
   obtain ⟨ty, hty, htr⟩ := zza htr
   split at htr
   ·rename_i esz eb zs
    have fin : ∀ (y' : X) (z' m' : X) (hy : (∃ y0, lo = some y0 ∧ trX y0 = some y') ∨ (lo = none ∧ y' = .c (.d (.int .i64 0)))) (hx : ∃ x', trX x = some x' ∧ i = .lmax (o.dst.getD 0) esz x' y' z' m') (hz : trX hi = some z') (hm : trX mx = some m') (d : Nat) (hd : o.dst = some d), o.wp c.P ⟨tmps, c.ds⟩ w (Goes c K) Q := by
     rintro y' z' m' hy ⟨x', hx, rfl⟩ hz hm d hd
     rw [hd] at hK
     simp only [Option.getD_some, aopG, opv] at hK
     split at hK
     ·rename_i v ob gs hr
      split at hr
      ·rename_i r hr'
       cases hr
       obtain ⟨hgs, hob⟩ := zzk hg hK.1
       simp only [Bool.and_eq_true] at hgs
       obtain ⟨g1, g2, g3, g4⟩ := hgs
       have key : ∀ {kl kh km : IntKind} {l hh m : Int}, ev st y' = .d (.int kl l) → ev st z' = .d (.int kh hh) → ev st m' = .d (.int km m) → 0 ≤ l → l ≤ hh → hh ≤ m → ∀ (nn cc : Nat), m ≤ cc →
         (Instr.sliceBounds true nn cc (lo.map (Act.eval ⟨tmps, c.ds⟩)) ((some hi).map (Act.eval ⟨tmps, c.ds⟩)) ((some mx).map (Act.eval ⟨tmps, c.ds⟩))).run c.P w = .ok (l.toNat, hh.toNat, m.toNat) w := by
        intro kl kh km l hh m e1 e2 e3 h0 h1 h2 nn cc h3
        have f2 := h.ev hz g3 (ds := c.ds)
        rw [e2] at f2
        have f2 : Act.eval ⟨tmps, c.ds⟩ hi = .int kh hh := f2
        have f3 := h.ev hm g4 (ds := c.ds)
        rw [e3] at f3
        have f3 : Act.eval ⟨tmps, c.ds⟩ mx = .int km m := f3
        simp only [Option.map_some, f2, f3]
        refine yzt (kl := kl) _ ?_ h0 h1 h2 h3
        rcases hy with ⟨y0, rfl, hy⟩ | ⟨rfl, rfl⟩
        ·have f1 := h.ev hy g2 (ds := c.ds)
         rw [e1] at f1
         have f1 : Act.eval ⟨tmps, c.ds⟩ y0 = .int kl l := f1
         left; simp only [Option.map_some, f1]
        ·simp only [ev, ev0, AV.strip, AV.d.injEq, D.int.injEq] at e1
         right; exact ⟨rfl, e1.2.symm⟩
       unfold lmaxA at hr'
       split at hr'
       ·rename_i s e off n cap kl l kh hh km m he hl hh' hm'
        cases hr'
        obtain ⟨⟨h0, h1, h2, h3⟩, rfl⟩ := hob
        have hcap : n ≤ cap := by
         have f := h.ev hx g1 (ds := c.ds)
         rw [he] at f
         exact f.1
        obtain ⟨cv, hrun, hrep⟩ := zqv (ds := c.ds) h (hT _ _ hty) hop hx g1 he (l := l.toNat) (hh := hh.toNat) (m := m.toNat) (by omega) (by omega) (by omega) (fun nn cc e1 e2 => key hl hh' hm' h0 h1 h2 nn cc (by omega))
        exact zzf hrun h hrep hd (hdst d hd) hg hK.2 Q
       ·split at hr'
        ·rename_i kl l kh hh km m hl hh' hm' _ _ es hes
         cases hr'
         obtain ⟨⟨h0, h1, h2, h3⟩, hlen⟩ := hob
         obtain ⟨cv, hrun, hrep⟩ := ykU (ds := c.ds) h (hT _ _ hty) hop hx g1 hes hlen (l := l.toNat) (hh := hh.toNat) (m := m.toNat) (by omega) (by omega) (by omega) (fun nn cc e1 e2 => key hl hh' hm' h0 h1 h2 nn cc (by omega))
         exact zzf hrun h hrep hd (hdst d hd) hg hK.2 Q
        ·cases hr'
       ·cases hr'
      ·cases hr
     ·exact hK.elim
    cases lo with
    | none =>
     obtain ⟨d, hd, htr⟩ := zza htr
     obtain ⟨x', hx, htr⟩ := zza htr
     obtain ⟨z', hz, htr⟩ := zza htr
     obtain ⟨m', hm, htr⟩ := zza htr
     cases htr
     exact fin _ z' m' (.inr ⟨rfl, rfl⟩) ⟨x', hx, by rw [hd]; rfl⟩ hz hm d hd
    | some y =>
     obtain ⟨d, hd, htr⟩ := zza htr
     obtain ⟨x', hx, htr⟩ := zza htr
     obtain ⟨y', hy, htr⟩ := zza htr
     obtain ⟨z', hz, htr⟩ := zza htr
     obtain ⟨m', hm, htr⟩ := zza htr
     cases htr
     exact fin y' z' m' (.inl ⟨y, rfl, hy⟩) ⟨x', hx, by rw [hd]; rfl⟩ hz hm d hd
   ·cases htr
  | none =>
  obtain ⟨ty, hty, htr⟩ := zza htr
  split at htr
  ·cases lo with
   | none =>
    cases hi with
    | none => cases htr
    | some z =>
     obtain ⟨d, hd, htr⟩ := zza htr
     obtain ⟨x', hx, htr⟩ := zza htr
     obtain ⟨z', hz, htr⟩ := zza htr
     cases htr
     simp only [aopG, opv] at hK
     split at hK
     ·rename_i v ob gs hr
      split at hr
      ·rename_i s k l k' m hs hl hm
       cases hr
       obtain ⟨hgs, hob⟩ := zzk hg hK.1
       simp only [Bool.and_eq_true] at hgs
       obtain ⟨cv, hrun, hrep⟩ := ykf h (hT _ _ hty) hop hx (.inr ⟨rfl, rfl⟩) hz hgs.1 hgs.2.1 hgs.2.2 hs hl hm hob
       exact zzf hrun h hrep hd (hdst d hd) hg hK.2 Q
      ·cases hr
     ·exact hK.elim
   | some y =>
    cases hi with
    | none =>
     obtain ⟨d, hd, htr⟩ := zza htr
     obtain ⟨x', hx, htr⟩ := zza htr
     obtain ⟨y', hy, htr⟩ := zza htr
     cases htr
     simp only [aopG, opv] at hK
     split at hK
     ·rename_i v ob gs hr
      split at hr
      ·rename_i s k n hs hn
       cases hr
       obtain ⟨hgs, hob⟩ := zzk hg hK.1
       simp only [Bool.and_eq_true] at hgs
       obtain ⟨cv, hrun, hrep⟩ := ywv h (hT _ _ hty) hop hx hy hgs.1 hgs.2 hs hn hob
       exact zzf hrun h hrep hd (hdst d hd) hg hK.2 Q
      ·cases hr
     ·exact hK.elim
    | some z =>
     obtain ⟨d, hd, htr⟩ := zza htr
     obtain ⟨x', hx, htr⟩ := zza htr
     obtain ⟨y', hy, htr⟩ := zza htr
     obtain ⟨z', hz, htr⟩ := zza htr
     cases htr
     simp only [aopG, opv] at hK
     split at hK
     ·rename_i v ob gs hr
      split at hr
      ·rename_i s k l k' m hs hl hm
       cases hr
       obtain ⟨hgs, hob⟩ := zzk hg hK.1
       simp only [Bool.and_eq_true] at hgs
       obtain ⟨cv, hrun, hrep⟩ := ykf h (hT _ _ hty) hop hx (.inl ⟨y, rfl, hy⟩) hz hgs.1 hgs.2.1 hgs.2.2 hs hl hm hob
       exact zzf hrun h hrep hd (hdst d hd) hg hK.2 Q
      ·cases hr
     ·exact hK.elim
  ·cases lo with
   | none =>
    cases hi with
    | none => cases htr
    | some z =>
     obtain ⟨d, hd, htr⟩ := zza htr
     obtain ⟨x', hx, htr⟩ := zza htr
     obtain ⟨z', hz, htr⟩ := zza htr
     cases htr
     simp only [aopG, opv] at hK
     split at hK
     ·rename_i v ob gs hr
      split at hr
      ·rename_i r hr'
       cases hr
       obtain ⟨hgs, hob⟩ := zzk hg hK.1
       simp only [Bool.and_eq_true] at hgs
       unfold ltoA at hr'
       split at hr'
       ·rename_i sb e off n cap k l k' m he hl hm
        cases hr'
        obtain ⟨⟨h0, h1, h2⟩, rfl⟩ := hob
        have hcap : n ≤ cap := by
         have f := h.ev hx hgs.1 (ds := c.ds)
         rw [he] at f
         exact f.1
        have f2 := h.ev hz hgs.2.2 (ds := c.ds)
        rw [hm] at f2
        have f2 : Act.eval ⟨tmps, c.ds⟩ z = .int k' m := f2
        obtain ⟨cv, hrun, hrep⟩ := zqv (ds := c.ds) h (hT _ _ hty) hop hx hgs.1 he (l := l.toNat) (hh := m.toNat) (m := cap) (by omega) (by omega) (by omega) (fun nn cc e1 e2 => by
         subst e2
         simp only [Option.map_some, f2]
         refine zY4 (kl := k) _ ?_ h0 h1 (by omega)
         simp only [ev, ev0, AV.strip, AV.d.injEq, D.int.injEq] at hl
         right; exact ⟨rfl, hl.2.symm⟩)
        exact zzf hrun h hrep hd (hdst d hd) hg hK.2 Q
       ·split at hr'
        ·rename_i k l k' m hl hm _ _ s hs
         cases hr'
         obtain ⟨cv, hrun, hrep⟩ := yke h (hT _ _ hty) hop hx (.inr ⟨rfl, rfl⟩) hz hgs.1 hgs.2.1 hgs.2.2 hs hl hm hob
         exact zzf hrun h hrep hd (hdst d hd) hg hK.2 Q
        ·cases hr'
       ·cases hr'
      ·cases hr
     ·exact hK.elim
   | some y =>
    cases hi with
    | none =>
     obtain ⟨d, hd, htr⟩ := zza htr
     obtain ⟨x', hx, htr⟩ := zza htr
     obtain ⟨y', hy, htr⟩ := zza htr
     cases htr
     simp only [aopG, opv] at hK
     split at hK
     ·rename_i v ob gs hr
      split at hr
      ·rename_i r hr'
       cases hr
       obtain ⟨hgs, hob⟩ := zzk hg hK.1
       simp only [Bool.and_eq_true] at hgs
       unfold lfromA at hr'
       split at hr'
       ·rename_i sb e off n cap k l he hl
        cases hr'
        obtain ⟨⟨h0, h1⟩, rfl⟩ := hob
        have hcap : n ≤ cap := by
         have f := h.ev hx hgs.1 (ds := c.ds)
         rw [he] at f
         exact f.1
        have f2 := h.ev hy hgs.2 (ds := c.ds)
        rw [hl] at f2
        have f2 : Act.eval ⟨tmps, c.ds⟩ y = .int k l := f2
        obtain ⟨cv, hrun, hrep⟩ := zqv (ds := c.ds) h (hT _ _ hty) hop hx hgs.1 he (l := l.toNat) (hh := n) (m := cap) (by omega) (by omega) (by omega) (fun nn cc e1 e2 => by
         subst e1 e2
         simp only [Option.map_some, Option.map_none, f2]
         exact zJs h0 h1)
        exact zzf hrun h hrep hd (hdst d hd) hg hK.2 Q
       ·split at hr'
        ·rename_i k n hn _ _ s hs
         cases hr'
         obtain ⟨cv, hrun, hrep⟩ := ywu h (hT _ _ hty) hop hx hy hgs.1 hgs.2 hs hn hob
         exact zzf hrun h hrep hd (hdst d hd) hg hK.2 Q
        ·cases hr'
       ·cases hr'
      ·cases hr
     ·exact hK.elim
    | some z =>
     obtain ⟨d, hd, htr⟩ := zza htr
     obtain ⟨x', hx, htr⟩ := zza htr
     obtain ⟨y', hy, htr⟩ := zza htr
     obtain ⟨z', hz, htr⟩ := zza htr
     cases htr
     simp only [aopG, opv] at hK
     split at hK
     ·rename_i v ob gs hr
      split at hr
      ·rename_i r hr'
       cases hr
       obtain ⟨hgs, hob⟩ := zzk hg hK.1
       simp only [Bool.and_eq_true] at hgs
       unfold ltoA at hr'
       split at hr'
       ·rename_i sb e off n cap k l k' m he hl hm
        cases hr'
        obtain ⟨⟨h0, h1, h2⟩, rfl⟩ := hob
        have hcap : n ≤ cap := by
         have f := h.ev hx hgs.1 (ds := c.ds)
         rw [he] at f
         exact f.1
        have f2 := h.ev hz hgs.2.2 (ds := c.ds)
        rw [hm] at f2
        have f2 : Act.eval ⟨tmps, c.ds⟩ z = .int k' m := f2
        obtain ⟨cv, hrun, hrep⟩ := zqv (ds := c.ds) h (hT _ _ hty) hop hx hgs.1 he (l := l.toNat) (hh := m.toNat) (m := cap) (by omega) (by omega) (by omega) (fun nn cc e1 e2 => by
         subst e2
         simp only [Option.map_some, f2]
         refine zY4 (kl := k) _ ?_ h0 h1 (by omega)
         have f1 := h.ev hy hgs.2.1 (ds := c.ds)
         rw [hl] at f1
         have f1 : Act.eval ⟨tmps, c.ds⟩ y = .int k l := f1
         left; simp only [f1])
        exact zzf hrun h hrep hd (hdst d hd) hg hK.2 Q
       ·split at hr'
        ·rename_i k l k' m hl hm _ _ s hs
         cases hr'
         obtain ⟨cv, hrun, hrep⟩ := yke h (hT _ _ hty) hop hx (.inl ⟨y, rfl, hy⟩) hz hgs.1 hgs.2.1 hgs.2.2 hs hl hm hob
         exact zzf hrun h hrep hd (hdst d hd) hg hK.2 Q
        ·cases hr'
       ·cases hr'
      ·cases hr
     ·exact hK.elim
  ·cases htr
 case convert t' t x =>
  obtain ⟨sty, hsty, htr⟩ := zza htr
  have hsrc : (c.P.underlying t').isSome = true := by
   obtain ⟨_, _, _, _, _, _, hu, _⟩ := zvl (hT _ _ hsty)
   exact hu
  obtain ⟨ty, hty, htr⟩ := zza htr
  split at htr
  ·rename_i k
   obtain ⟨d, hd, htr⟩ := zza htr
   obtain ⟨x', hx, htr⟩ := zza htr
   cases htr
   simp only [aopG, opv] at hK
   split at hK
   ·rename_i v ob gs hr
    split at hr
    ·rename_i q n hn
     cases hr
     obtain ⟨hgs, _⟩ := zzk hg hK.1
     obtain ⟨cv, hrun, hrep⟩ := yvu h (hT _ _ hty) hop hx hgs hsrc hn
     exact zzf hrun h hrep hd (hdst d hd) hg hK.2 Q
    ·cases hr
   ·exact hK.elim
  ·obtain ⟨d, hd, htr⟩ := zza htr
   obtain ⟨x', hx, htr⟩ := zza htr
   cases htr
   simp only [aopG, opv] at hK
   split at hK
   ·rename_i v ob gs hr
    split at hr
    ·rename_i s hn
     cases hr
     obtain ⟨hgs, _⟩ := zzk hg hK.1
     obtain ⟨cv, hrun, hrep⟩ := yvt h (hT _ _ hty) hop hx hgs hsrc hn
     exact zzf hrun h hrep hd (hdst d hd) hg hK.2 Q
    ·cases hr
   ·exact hK.elim
  ·cases htr
 case makeSlice t x y =>
  obtain ⟨ty, hty, htr⟩ := zza htr
  split at htr
  ·rename_i esz eb zs
   split at htr
   ·rename_i hxy
    obtain ⟨d, hd, htr⟩ := zza htr
    obtain ⟨x', hx, htr⟩ := zza htr
    cases htr
    simp only [aopG] at hK
    split at hK
    ·rename_i k n hn
     obtain ⟨⟨rfl, g1, g2, rfl, g4, g5, g6, g7⟩, hK⟩ := hK
     obtain ⟨cv, w', ρ', hrun, hs, hrep⟩ := yvC h (hT _ _ hty) (ds := c.ds) hop hxy hx g1 hn g2 (hdst d hd).1 g4 g5 g6 g7
     exact zzf hrun hs hrep hd (hdst d hd) (.inl rfl) hK Q
    ·exact hK.elim
   ·cases htr
  ·cases htr
 case extract x i =>
  obtain ⟨d, hd, htr⟩ := zza htr
  obtain ⟨x', hx, htr⟩ := zza htr
  cases htr
  simp only [aopG, opv] at hK
  split at hK
  ·rename_i v ob gs hr
   split at hr
   ·rename_i vs hvs
    cases hr
    obtain ⟨hgs, hob⟩ := zzk hg hK.1
    obtain ⟨cv, hrun, hrep⟩ := yvv h hop hx hgs hvs hob
    exact zzf hrun h hrep hd (hdst d hd) hg hK.2 Q
   ·cases hr
  ·exact hK.elim
 case makeFunc fn first caps =>
  split at htr
  ·rename_i f
   split at htr
   ·rename_i hfirst
    obtain ⟨d, hd, htr⟩ := zza htr
    obtain ⟨xs, hxs, htr⟩ := zza htr
    cases htr
    simp only [aopG, opv] at hK
    obtain ⟨hgs, _⟩ := zzk hg hK.1
    have hf : first = #[] := by simpa using hfirst
    subst hf
    obtain ⟨cv, hrun, hrep⟩ := yvA h hop hxs hgs
    exact zzf hrun h hrep hd (hdst d hd) hg hK.2 Q
   ·cases htr
  ·cases htr
 case alloc t =>
  obtain ⟨d, hd, htr⟩ := zza htr
  obtain ⟨ty, hty, htr⟩ := zza htr
  cases htr
  simp only [aopG] at hK
  obtain ⟨⟨rfl, hm⟩, hK⟩ := hK
  obtain ⟨ti, z, hi, hz, _, _, _, hzs⟩ := zvl (hT _ _ hty)
  obtain ⟨ρ', hle, hb, hs⟩ := h.newBox hm (hdst d hd).1 (zjj w S ρ hzs) t
  have hrun : (execOp (Act.eval ⟨tmps, c.ds⟩) o).run c.P w = .ok (.value (.pointer (some ⟨w.heap.size, 0, none⟩))) (w.alloc (.cells z.cells t)) := by
   unfold execOp
   simp [hop, Instr.alloc, zqD hi hz, newVar, newRow]
  exact zzf (v := .ptr d 0) hrun hs ⟨_, hb, rfl⟩ hd (hdst d hd) (.inl rfl) hK Q
 case box t x =>
  obtain ⟨d, hd, htr⟩ := zza htr
  obtain ⟨x', hx, htr⟩ := zza htr
  cases htr
  simp only [aopG] at hK
  obtain ⟨⟨rfl, hgx, hsol, hm⟩, hK⟩ := hK
  have hrep := zvk (h.ev (ds := c.ds) hx hgx) hsol
  obtain ⟨ρ', hle, hb, hs⟩ := h.newBox hm (hdst d hd).1 hrep t
  have hrun : (execOp (Act.eval ⟨tmps, c.ds⟩) o).run c.P w = .ok (.value (.pointer (some ⟨w.heap.size, 0, none⟩))) (w.alloc (.cells (Act.eval ⟨tmps, c.ds⟩ x).cells t)) := by
   unfold execOp
   simp [hop, Instr.box, newVar, newRow]
  exact zzf (v := .ptr d 0) hrun hs ⟨_, hb, rfl⟩ hd (hdst d hd) (.inl rfl) hK Q
 case store t x y =>
  split at htr
  ·rename_i hdn
   obtain ⟨ty, hty, htr⟩ := zza htr
   obtain ⟨x', hx, htr⟩ := zza htr
   obtain ⟨y', hy, htr⟩ := zza htr
   cases htr
   simp only [aopG] at hK
   split at hK
   ·rename_i s off hp
    split at hK
    ·rename_i cs hcs
     obtain ⟨⟨rfl, g1, g2, g3, g4, g5, g6⟩, hK⟩ := hK
     obtain ⟨w', hrun, hs⟩ := ok_st h (hT _ _ hty) hop hx hy hp hcs g1 g2 g3 g4 g5 g6
     unfold Oper.wp
     rw [hrun]
     simp only [Oper.upon_skip, Act.put, hdn]
     exact ⟨rfl, _, _, _, hs, hK⟩
    ·exact hK.elim
   ·rename_i tk sz hp
    split at hK
    ·rename_i xs hxs
     obtain ⟨⟨rfl, g1, g2, g3, g4, g5, g6⟩, hK⟩ := hK
     obtain ⟨w', S', ρ', hrun, hs⟩ := yvH h (hT _ _ hty) hop hx hy hp g1 g2 g3 hxs g4 g5 g6 (ds := c.ds)
     unfold Oper.wp
     rw [hrun]
     simp only [Oper.upon_skip, Act.put, hdn]
     exact ⟨rfl, _, _, _, hs, hK⟩
    ·exact hK.elim
   ·exact hK.elim
  ·cases htr
 case makeMap t rs =>
  cases rs with
  | some _ => cases htr
  | none =>
  obtain ⟨ty, hty, htr⟩ := zza htr
  split at htr
  ·rename_i k e kz ez
   obtain ⟨d, hd, htr⟩ := zza htr
   cases htr
   simp only [aopG] at hK
   obtain ⟨⟨rfl, hm⟩, hK⟩ := hK
   obtain ⟨ρ', hrun, hb, hs⟩ := yvB (ds := c.ds) (k := k) (e := e) h hop hm (hdst _ hd).1
   exact zzf (v := .mref d) hrun hs ⟨_, hb, rfl⟩ hd (hdst d hd) (.inl rfl) hK Q
  ·cases htr
 case mapUpdate t x y z =>
  split at htr
  ·rename_i hdn
   obtain ⟨ty, hty, htr⟩ := zza htr
   split at htr
   ·obtain ⟨x', hx, htr⟩ := zza htr
    obtain ⟨y', hy, htr⟩ := zza htr
    obtain ⟨z', hz, htr⟩ := zza htr
    cases htr
    simp only [aopG] at hK
    split at hK
    ·rename_i s kd vd ex ey ez'
     split at hK
     ·rename_i k' e' kvs hm
      obtain ⟨⟨rfl, g1, g2, g3, rfl, rfl, g6, g7, g9⟩, hK⟩ := hK
      obtain ⟨w', hrun, hs⟩ := ykX h (hT _ _ hty) hop hx hy hz ex ey ez' hm g1 g2 g3 g6 g7 g9
      unfold Oper.wp
      rw [hrun]
      simp only [Oper.upon_skip, Act.put, hdn]
      exact ⟨rfl, _, _, _, hs, hK⟩
     ·exact hK.elim
    ·exact hK.elim
   ·cases htr
  ·cases htr
 case lookup t x y ok =>
  obtain ⟨ty, hty, htr⟩ := zza htr
  split at htr
  ·rename_i k e kz ez
   obtain ⟨d, hd, htr⟩ := zza htr
   obtain ⟨x', hx, htr⟩ := zza htr
   obtain ⟨y', hy, htr⟩ := zza htr
   cases htr
   simp only [aopG] at hK
   split at hK
   ·rename_i v ob gs hr
    obtain ⟨hgs, hob⟩ := zzk hg hK.1
    obtain ⟨cv, hrun, hrep⟩ := ykW h (hT _ _ hty) hop hx hy (r := (v, ob, gs)) (by rw [hG] at hr; simpa only [opv] using hr) hob hgs
    exact zzf hrun h hrep hd (hdst d hd) hg hK.2 Q
   ·exact hK.elim
  ·cases htr
 case call cl =>
  obtain ⟨callee, args, argTypes⟩ := cl
  cases callee <;> simp only [trCall, Option.bind_eq_bind, Option.pure_def, reduceCtorEq] at htr
  case value f =>
   split at htr
   ·obtain ⟨f', hf, htr⟩ := zza htr
    obtain ⟨xs, hxs, htr⟩ := zza htr
    cases htr
    simp only [aopG] at hK
    split at hK
    ·rename_i fid caps hfv
     obtain ⟨x, hb, hK⟩ := hK
     have hg2 := hb.2.1
     simp only [Bool.and_eq_true] at hg2
     have e1 := h.ev (ds := c.ds) hf hg2.1
     rw [hfv] at e1
     obtain ⟨cs, hv, hcaps⟩ := e1
     exact zv2 hC h hop hxs hdst hv (RepL.toAs hcaps) (fun _ => hg2.2) hb hK Q
    ·rename_i fid caps hfv
     obtain ⟨x, hb, hK⟩ := hK
     have hg2 := hb.2.1
     simp only [Bool.and_eq_true] at hg2
     have e1 := h.ev (ds := c.ds) hf hg2.1
     rw [hfv] at e1
     obtain ⟨cs, hv, hcaps⟩ := e1
     exact zv2 hC h hop hxs hdst hv hcaps (fun _ => hg2.2) hb hK Q
    ·exact hK.elim
   obtain ⟨f', hf, htr⟩ := zza htr
   obtain ⟨xs, hxs, htr⟩ := zza htr
   cases htr
   simp only [aopG] at hK
   split at hK
   ·rename_i fid caps hfv
    split at hK
    ·rename_i cvs hcvs
     obtain ⟨r, hpre, hK⟩ := hK
     obtain ⟨hgf, hgs, hCr⟩ := zzk hg hpre
     have hEv := hC _ _ _ hCr
     obtain ⟨fn, hfn, hname, hbody⟩ := hEv.enters
     have e1 := h.ev (ds := c.ds) hf hgf
     rw [hfv] at e1
     obtain ⟨cs, hv, hcaps⟩ := e1
     have e2 := zvZ (zyv (w := w) (S := S) (ρ := ρ)) 1 (h.evs (ds := c.ds) hxs hgs) hcvs
     have hrun : (execOp (Act.eval ⟨tmps, c.ds⟩) o).run c.P w = .ok (.enter fid (args.map (Act.eval ⟨tmps, c.ds⟩) ++ cs)) w := by
      unfold execOp
      simp only [hop]
      have hname' : ¬ fn.name = "runtime.NumGoroutine" := by simpa using hname
      have hbody' : ¬ fn.body = none := by intro e; simp [e] at hbody
      simp [resolve, invoke, callFunc, Deferred.ofValue, hv, hfn, hname', hbody']
     unfold Oper.wp
     rw [hrun, Oper.upon_enter]
     have hargs : RepCL w S (cvs ++ caps.map .one) (args.map (Act.eval ⟨tmps, c.ds⟩) ++ cs).toList := by
      simp only [Array.toList_append, Array.toList_map]
      exact RepCL.append e2 (RepL.toCL hcaps)
     cases hro : r.isOwn with
     | true =>
      cases r <;> simp only [CV.isOwn, Bool.false_eq_true] at hro
      case bx => exact hK.elim
      case vc =>
       rename_i sz es
       cases hd : o.dst with
       | none => rw [hd] at hK; exact hK.elim
       | some d =>
       rw [hd] at hK
       obtain ⟨⟨_, rfl, hdn⟩, hK0, hK1⟩ := hK
       refine ((hEv : EvV _ _ _ _ _ _).2 w S (args.map (Act.eval ⟨tmps, c.ds⟩) ++ cs) h.live ⟨h.glob, h.exact⟩ hargs).mono ?_
       rintro e w' ⟨v, S', rfl, hnew, hbel, hS, hS', hlive⟩
       have hs := h.grow hbel hS hS' hlive
       simp only [Act.put, hd]
       rcases hnew with ⟨rfl, hr⟩ | ⟨hne, hlen, b, cap, vs, ev, rfl, g1, g2, g3, g4, g5, g6, g7⟩
       ·refine ⟨rfl, _, _, _, hs.put (v := v) (hdst d hd) (a := .d (.lst [])) hr none (fun b hb => by cases hb), hK0 rfl⟩
       ·have hvl := RepL.length g6
        obtain ⟨ρ', hle, hbx, hs'⟩ := h.addBox hs g1 hdn (hdst d hd).1 (cs := es.flatten.map .d ++ List.replicate (cap * sz - es.length * sz) .undef) g4 (by
         have e1 := RepAs.append (ρ := ρ) (RepL.toAs g6) (RepAs.undefs' (l := vs.toList.drop (es.length * sz)) (n := cap * sz - es.length * sz) (by simp [g5]))
         rwa [List.take_append_drop] at e1) g7
        exact ⟨rfl, _, _, _, hs'.put (v := .slice (some ⟨b, 0, none⟩) es.length cap) (hdst d hd) (a := .vec d sz 0 es.length cap) ⟨g2, g3, b, hbx, rfl⟩ none (fun b hb => by cases hb), hK1 hne cap g2 g3⟩
      rename_i a sz es
      cases hd : o.dst with
      | none => rw [hd] at hK; exact hK.elim
      | some d =>
      rw [hd] at hK
      obtain ⟨⟨rfl, hdn, hao⟩, hK⟩ := hK
      obtain ⟨X, g1, g2, g3⟩ := h.takes (cl := cs.toList) (caps := caps.map .one) (h.evs (ds := c.ds) hxs hgs) hcvs hao
      refine ((hEv : EvOwn _ _ _ _ _ _ _).2 w S (args.map (Act.eval ⟨tmps, c.ds⟩) ++ cs) X h.live ⟨h.glob, h.exact⟩ hargs (by
       simp only [Array.toList_append, Array.toList_map]; exact g1)).mono ?_
      rintro e w' ⟨v, S', rfl, hv, hlen, hroom, hbel, hkeep, hS', hlive⟩
      obtain ⟨ρ', hs, hrep⟩ := g2.gotOwn g3 hbel hkeep hS' hlive hv hlen hroom (d := d) (ywd hdn)
      simp only [Act.put, hd]
      exact ⟨rfl, _, _, _, hs.put (hdst d hd) hrep none (fun b hb => by cases hb), hK⟩
     | false =>
     have hcalls := (hEv.data hro).2
     have hK : K (match o.dst with | some d => st.put g d r.toAV0 | none => st) := by
      cases r <;> simp only [CV.isOwn, Bool.true_eq_false] at hro <;> first | exact hK | exact hK.elim
     refine (hcalls w S (args.map (Act.eval ⟨tmps, c.ds⟩) ++ cs) h.live ⟨h.glob, h.exact⟩ hargs).mono ?_
     rintro e w' ⟨v, S', rfl, hr, hbel, hS, hS', hlive⟩
     have hs := h.grow hbel hS hS' hlive
     simp only [Act.put]
     cases hd : o.dst with
     | none =>
      rw [hd] at hK
      exact ⟨rfl, _, _, _, hs, hK⟩
     | some d =>
      rw [hd] at hK
      refine ⟨rfl, _, _, _, hs.put (hdst d hd) (RepC.toAV hr) g ?_, hK⟩
      rintro b hb rfl
      rcases hg with hg | hg <;> rw [hg] at hb <;> cases hb
    ·rcases hK with hK | hK
     rotate_left
     ·exact hK.elim
     unfold callWP at hK
     rcases hK with hK | ⟨x, hb, hK⟩ | ⟨B, cvs, r, ⟨rfl, hgg, hro, hdrop, hcvs, hCr⟩, hK⟩
     ·split at hK
      ·rename_i cvs hcvs
       rcases hK with hK | hK
       ·obtain ⟨r, hpre, hK⟩ := hK
        obtain ⟨hgg, hflat, hCr⟩ := zzk hg hpre
        simp only [Bool.and_eq_true] at hgg
        obtain ⟨hgf, hgs⟩ := hgg
        have hEv := hC _ _ _ hCr
        obtain ⟨fn, hfn, hname, hbody⟩ := hEv.enters
        obtain ⟨S2, hSS, _, hlive2, _, hthr⟩ := h.close
        have hkeep : Keeps w S w S2 := fun b o hs => ⟨hSS b o hs, rfl⟩
        have e1 := h.ev (ds := c.ds) hf hgf
        rw [hfv] at e1
        obtain ⟨cs, hv, hcaps⟩ := e1
        have e2 := zvZ hthr 3 (RepAs.keep hkeep ρ.le_refl _ _ (h.evs (ds := c.ds) hxs hgs)) hcvs
        have hrun : (execOp (Act.eval ⟨tmps, c.ds⟩) o).run c.P w = .ok (.enter fid (args.map (Act.eval ⟨tmps, c.ds⟩) ++ cs)) w := by
         unfold execOp
         simp only [hop]
         have hname' : ¬ fn.name = "runtime.NumGoroutine" := by simpa using hname
         have hbody' : ¬ fn.body = none := by intro e; simp [e] at hbody
         simp [resolve, invoke, callFunc, Deferred.ofValue, hv, hfn, hname', hbody']
        unfold Oper.wp
        rw [hrun, Oper.upon_enter]
        have hargs : RepCL w S2 (cvs ++ caps.map .one) (args.map (Act.eval ⟨tmps, c.ds⟩) ++ cs).toList := by
         simp only [Array.toList_append, Array.toList_map]
         exact RepCL.append e2 (RepL.toCL (RepL.keep hkeep _ _ hcaps))
        have hro := yx8 hflat
        have hcalls := (hEv.data hro).2
        have hK : K (match o.dst with | some d => st.put g d r.toAV0 | none => st) := by
         cases r <;> simp only [CV.isOwn, Bool.true_eq_false] at hro <;> first | exact hK | exact hK.elim
        refine (hcalls w S2 (args.map (Act.eval ⟨tmps, c.ds⟩) ++ cs) hlive2 ⟨fun g cs hg => RepCs.keep hkeep g 0 cs (h.glob g cs hg), h.exact⟩ hargs).mono ?_
        rintro e w' ⟨v, S', rfl, hr, hbel, _, _, _⟩
        have hs := h.grow (S' := S) hbel (fun _ _ h => h) (fun _ _ h => .inl h) (fun b o hso => by
         obtain ⟨u, hu⟩ := h.live b o hso
         exact ⟨u, (hbel.cell (p := ⟨b, o, none⟩) (zyc hu)).trans hu⟩)
        have hr : RepC w' S r v := zJU hflat hr
        simp only [Act.put]
        cases hd : o.dst with
        | none =>
         rw [hd] at hK
         exact ⟨rfl, _, _, _, hs, hK⟩
        | some d =>
         rw [hd] at hK
         refine ⟨rfl, _, _, _, hs.put (hdst d hd) (RepC.toAV hr) g ?_, hK⟩
         rintro b hb rfl
         rcases hg with hg | hg <;> rw [hg] at hb <;> cases hb
       ·obtain ⟨r, ⟨rfl, hgg, hro, hCr⟩, hK⟩ := hK
        simp only [Bool.and_eq_true] at hgg
        obtain ⟨hgf, hgs⟩ := hgg
        have hEv := hC _ _ _ hCr
        obtain ⟨fn, hfn, hname, hbody⟩ := hEv.enters
        obtain ⟨S2, hSS, hS2, hlive2, _, hthr⟩ := h.closeB
        have hkeep : Keeps w S w S2 := fun b o hs => ⟨hSS b o hs, rfl⟩
        have e1 := h.ev (ds := c.ds) hf hgf
        rw [hfv] at e1
        obtain ⟨cs, hv, hcaps⟩ := e1
        have e2 := zvZ hthr 3 (RepAs.keep hkeep ρ.le_refl _ _ (h.evs (ds := c.ds) hxs hgs)) hcvs
        have hrun : (execOp (Act.eval ⟨tmps, c.ds⟩) o).run c.P w = .ok (.enter fid (args.map (Act.eval ⟨tmps, c.ds⟩) ++ cs)) w := by
         unfold execOp
         simp only [hop]
         have hname' : ¬ fn.name = "runtime.NumGoroutine" := by simpa using hname
         have hbody' : ¬ fn.body = none := by intro e; simp [e] at hbody
         simp [resolve, invoke, callFunc, Deferred.ofValue, hv, hfn, hname', hbody']
        unfold Oper.wp
        rw [hrun, Oper.upon_enter]
        have hargs : RepCL w S2 (cvs ++ caps.map .one) (args.map (Act.eval ⟨tmps, c.ds⟩) ++ cs).toList := by
         simp only [Array.toList_append, Array.toList_map]
         exact RepCL.append e2 (RepL.toCL (RepL.keep hkeep _ _ hcaps))
        have hcalls := (hEv.data hro).2
        have hK : K (match o.dst with | some d => st.noBox.put none d r.toAV0 | none => st.noBox) := by
         cases r <;> simp only [CV.isOwn, Bool.true_eq_false] at hro <;> first | exact hK | exact hK.elim
        have h0 := h.noBox hSS hS2 hlive2
        refine (hcalls w S2 (args.map (Act.eval ⟨tmps, c.ds⟩) ++ cs) hlive2 ⟨h0.glob, h.exact⟩ hargs).mono ?_
        rintro e w' ⟨v, S', rfl, hr, hbel, hS, hS', hlive⟩
        have hs := h0.grow hbel hS hS' hlive
        simp only [Act.put]
        cases hd : o.dst with
        | none =>
         rw [hd] at hK
         exact ⟨rfl, _, _, _, hs, hK⟩
        | some d =>
         rw [hd] at hK
         exact ⟨rfl, _, _, _, hs.put (hdst d hd) (RepC.toAV hr) none (fun b hb => by cases hb), hK⟩
      ·exact hK.elim
     ·have hg2 := hb.2.1
      simp only [Bool.and_eq_true] at hg2
      have e1 := h.ev (ds := c.ds) hf hg2.1
      rw [hfv] at e1
      obtain ⟨cs, hv, hcaps⟩ := e1
      exact zv2 hC h hop hxs hdst hv (RepL.toAs hcaps) (fun _ => hg2.2) hb hK Q
     ·simp only [Bool.and_eq_true] at hgg
      obtain ⟨hgf, hgs⟩ := hgg
      have hEv := hC _ _ _ hCr
      obtain ⟨fn, hfn, hname, hbody⟩ := hEv.enters
      obtain ⟨S2, hSS, hS2, hlive2, _, hthr⟩ := h.closeIn B
      have hkeep : Keeps w S w S2 := fun b o hs => ⟨hSS b o hs, rfl⟩
      have e1 := h.ev (ds := c.ds) hf hgf
      rw [hfv] at e1
      obtain ⟨cs, hv, hcaps⟩ := e1
      have e2 := zvZ hthr 3 (RepAs.keep hkeep ρ.le_refl _ _ (h.evs (ds := c.ds) hxs hgs)) hcvs
      have hrun : (execOp (Act.eval ⟨tmps, c.ds⟩) o).run c.P w = .ok (.enter fid (args.map (Act.eval ⟨tmps, c.ds⟩) ++ cs)) w := by
       unfold execOp
       simp only [hop]
       have hname' : ¬ fn.name = "runtime.NumGoroutine" := by simpa using hname
       have hbody' : ¬ fn.body = none := by intro e; simp [e] at hbody
       simp [resolve, invoke, callFunc, Deferred.ofValue, hv, hfn, hname', hbody']
      unfold Oper.wp
      rw [hrun, Oper.upon_enter]
      have hargs : RepCL w S2 (cvs ++ caps.map .one) (args.map (Act.eval ⟨tmps, c.ds⟩) ++ cs).toList := by
       simp only [Array.toList_append, Array.toList_map]
       exact RepCL.append e2 (RepL.toCL (RepL.keep hkeep _ _ hcaps))
      have hcalls := (hEv.data hro).2
      have hK : K (match o.dst with | some d => (st.someBox B).put none d r.toAV0 | none => st.someBox B) := by
       cases r <;> simp only [CV.isOwn, Bool.true_eq_false] at hro <;> first | exact hK | exact hK.elim
      have h0 := h.someBox hdrop hSS hS2 hlive2
      refine (hcalls w S2 (args.map (Act.eval ⟨tmps, c.ds⟩) ++ cs) hlive2 ⟨h0.glob, h.exact⟩ hargs).mono ?_
      rintro e w' ⟨v, S', rfl, hr, hbel, hS, hS', hlive⟩
      have hs := h0.grow hbel hS hS' hlive
      simp only [Act.put]
      cases hd : o.dst with
      | none =>
       rw [hd] at hK
       exact ⟨rfl, _, _, _, hs, hK⟩
      | some d =>
       rw [hd] at hK
       exact ⟨rfl, _, _, _, hs.put (hdst d hd) (RepC.toAV hr) none (fun b hb => by cases hb), hK⟩
   ·rename_i fid caps hfv
    rcases hK with ⟨x, hb, hK⟩ | hK
    ·have hg2 := hb.2.1
     simp only [Bool.and_eq_true] at hg2
     have e1 := h.ev (ds := c.ds) hf hg2.1
     rw [hfv] at e1
     obtain ⟨cs, hv, hcaps⟩ := e1
     exact zv2 hC h hop hxs hdst hv hcaps (fun _ => hg2.2) hb hK Q
    ·exact hK.elim
   ·exact hK.elim
  case builtin b =>
   by_cases hbc : b = .clear
   ·subst hbc
    simp only at htr
    unfold trClear at htr
    split at htr
    ·rename_i x t tys hdn h1 h2
     have hargs : args = #[x] := Array.toList_inj.1 (by simpa using h1)
     have htys : argTypes = (t :: tys).toArray := Array.toList_inj.1 (by simpa using h2)
     subst hargs htys
     obtain ⟨ty, hty, htr⟩ := zza htr
     split at htr
     ·obtain ⟨x', hx, htr⟩ := zza htr
      cases htr
      simp only [aopG] at hK
      split at hK
      ·rename_i s ex
       split at hK
       ·rename_i k e kvs hm
        obtain ⟨⟨rfl, g1⟩, hK⟩ := hK
        obtain ⟨w', hrun, hs⟩ := ykV h (hT _ _ hty) (tys := tys) (ds := c.ds) hop hdn hx ex hm g1
        unfold Oper.wp
        rw [hrun]
        simp only [Oper.upon_value, Act.put, hdn]
        exact ⟨rfl, _, _, _, hs, hK⟩
       ·exact hK.elim
      ·exact hK.elim
     ·obtain ⟨x', hx, htr⟩ := zza htr
      cases htr
      simp only [aopG] at hK
      split at hK
      ·rename_i s e off n cap ex
       split at hK
       ·rename_i cs hm
        obtain ⟨⟨rfl, g1, rfl, g3, g4, g5⟩, hK⟩ := hK
        obtain ⟨w', hrun, hs⟩ := yvr h (hT _ _ hty) (tys := tys) (ds := c.ds) hop hdn hx g1 ex hm g3 g4 g5
        unfold Oper.wp
        rw [hrun]
        simp only [Oper.upon_value, Act.put, hdn]
        exact ⟨rfl, _, _, _, hs, hK⟩
       ·exact hK.elim
      ·exact hK.elim
     ·cases htr
    ·cases htr
   by_cases hbo : b = .copy
   ·subst hbo
    simp only at htr
    unfold trCopy at htr
    split at htr
    ·rename_i x y t t' h1 h2
     have hargs : args = #[x, y] := Array.toList_inj.1 (by simpa using h1)
     have htys : argTypes = #[t, t'] := Array.toList_inj.1 (by simpa using h2)
     subst hargs htys
     obtain ⟨ty, hty, htr⟩ := zza htr
     split at htr
     ·rename_i esz eb zs
      split at htr
      ·rename_i h1
       subst h1
       obtain ⟨x', hx, htr⟩ := zza htr
       obtain ⟨y', hy, htr⟩ := zza htr
       cases htr
       simp only [aopG] at hK
       split at hK
       ·rename_i s e off n cap es ex ey
        split at hK
        ·rename_i cs hm
         obtain ⟨⟨rfl, g1, g2, rfl, _, g5, g6⟩, hK⟩ := hK
         obtain ⟨w', hrun, hs⟩ := yvs h (hT _ _ hty) (ds := c.ds) hop hx hy g1 g2 ex ey hm g5 g6
         unfold Oper.wp
         rw [hrun]
         simp only [Oper.upon_value, Act.put]
         cases hd : o.dst with
         | none => rw [hd] at hK; exact ⟨rfl, _, _, _, hs, hK⟩
         | some d =>
          rw [hd] at hK
          exact ⟨rfl, _, _, _, hs.put (hdst d hd) (a := .d (.int .i64 (Nat.min es.length n : Nat))) rfl none (fun b hb => by cases hb), hK⟩
        ·exact hK.elim
       ·exact hK.elim
      ·cases htr
     ·cases htr
    ·cases htr
   replace htr : (o.dst >>= fun d => trBuiltin T d b args.toList argTypes.toList) = some i := by cases b <;> first | exact htr | exact absurd rfl hbc | exact absurd rfl hbo
   obtain ⟨d, hd, htr'⟩ := zza htr
   clear htr
   have htr := htr'
   clear htr'
   unfold trBuiltin at htr
   split at htr
   ·rename_i x t tys h1 h2
    have hargs : args = #[x] := Array.toList_inj.1 (by simpa using h1)
    have htys : argTypes = (t :: tys).toArray := Array.toList_inj.1 (by simpa using h2)
    subst hargs htys
    obtain ⟨ty, hty, htr⟩ := zza htr
    split at htr
    ·obtain ⟨x', hx, htr⟩ := zza htr
     cases htr
     simp only [aopG] at hK
     split at hK
     ·rename_i n hn
      have hgx := zzk hg hK.1
      obtain ⟨hrun, hle⟩ := zK2 h (hT _ _ hty) (tys := tys) hop hx hgx hn
      refine zzf (v := .d (.int .i64 n)) hrun h rfl hd (hdst d hd) hg (hK.2 ?_) Q
      rcases hg with rfl | rfl
      ·exact hle
      ·exact fun _ => hle
     ·exact hK.elim
    ·obtain ⟨x', hx, htr⟩ := zza htr
     cases htr
     simp only [aopG] at hK
     split at hK
     ·rename_i n hn
      have hgx := zzk hg hK.1
      obtain ⟨hrun, hle⟩ := yza h (hT _ _ hty) (tys := tys) hop hx hgx hn
      refine zzf (v := .d (.int .i64 n)) hrun h rfl hd (hdst d hd) hg (hK.2 ?_) Q
      rcases hg with rfl | rfl
      ·exact hle
      ·exact fun _ => hle
     ·exact hK.elim
    ·cases htr
   ·rename_i x y h1
    have hargs : args = #[x, y] := Array.toList_inj.1 (by simpa using h1)
    subst hargs
    obtain ⟨x', hx, htr⟩ := zza htr
    obtain ⟨y', hy, htr⟩ := zza htr
    cases htr
    simp only [aopG, opv] at hK
    split at hK
    ·rename_i v ob gs hr
     split at hr
     ·rename_i k p k' q hp hq
      cases hr
      obtain ⟨hgs, _⟩ := zzk hg hK.1
      simp only [Bool.and_eq_true] at hgs
      obtain ⟨cv, hrun, hrep⟩ := yvy h hop hx hy hgs.1 hgs.2 hp hq
      exact zzf hrun h hrep hd (hdst d hd) hg hK.2 Q
     ·cases hr
    ·exact hK.elim
   ·rename_i x y h1
    have hargs : args = #[x, y] := Array.toList_inj.1 (by simpa using h1)
    subst hargs
    obtain ⟨x', hx, htr⟩ := zza htr
    obtain ⟨y', hy, htr⟩ := zza htr
    cases htr
    simp only [aopG, opv] at hK
    split at hK
    ·rename_i v ob gs hr
     split at hr
     ·rename_i k p k' q hp hq
      cases hr
      obtain ⟨hgs, _⟩ := zzk hg hK.1
      simp only [Bool.and_eq_true] at hgs
      obtain ⟨cv, hrun, hrep⟩ := yvz h hop hx hy hgs.1 hgs.2 hp hq
      exact zzf hrun h hrep hd (hdst d hd) hg hK.2 Q
     ·cases hr
    ·exact hK.elim
   ·rename_i x y t t' h1 h2
    have hargs : args = #[x, y] := Array.toList_inj.1 (by simpa using h1)
    have htys : argTypes = #[t, t'] := Array.toList_inj.1 (by simpa using h2)
    subst hargs htys
    obtain ⟨ty, hty, htr⟩ := zza htr
    split at htr
    ·rename_i esz eb zs
     split at htr
     ·rename_i htt
      obtain ⟨x', hx, htr⟩ := zza htr
      obtain ⟨y', hy, htr⟩ := zza htr
      cases htr
      subst htt
      simp only [aopG] at hK
      split at hK
      ·rename_i sz hzy
       have fin0 : ∀ (es : List (List D)) (stk : St) (h' : Sim c stk tmps w S ρ) (hslots : stk.slots = st.slots) (base : Option Addr) (n cap : Nat),
         getT stk.tk d = none → gd st y' = true → sz = esz → Act.eval ⟨tmps, c.ds⟩ x = .slice base n cap → Rep w S (.lst es) (.slice base n cap) → (∀ e ∈ es, e.length = esz) → (es.length + 1) * eb ≤ 2 ^ 46 → es.length + 1 ≤ 9223372036854775807 →
         (n = cap ∨ ∃ b, base = some ⟨b, 0, none⟩ ∧ c.Own b ∧ (∃ cur e, w.heap[b]? = some (.cells cur e (0, 0)) ∧ cur.size = cap * esz) ∧
          (∀ o, n * esz ≤ o → ¬ S b o) ∧ (∀ s, ρ.box s ≠ some b) ∧ ∀ t' b' y, getT stk.tk t' = some true → ρ.tok t' = some (some ⟨b', 0, none⟩, y) → y.1 ≠ y.2.1 → b' ≠ b) →
         K { (stk.put none d (.pnd d esz es)) with tk := (d, true) :: stk.tk } → o.wp c.P ⟨tmps, c.ds⟩ w (Goes c K) Q := by
        intro es stk h' hslots base n cap hdn hgy hsz hxv hrep hes hby h63 hsp hKK
        have e2 := h.ev (ds := c.ds) hy hgy
        rw [hzy] at e2
        obtain ⟨e0, he0, b2, c2, hyv, hrest⟩ := e2
        have hrepy : Rep w S (.lst [e0]) (.slice b2 [e0].length c2) := ⟨b2, c2, rfl, hrest⟩
        obtain ⟨v', w', S', ρ', hrun, hs, hr⟩ := yzL (ty := o.type) h' (hT _ _ hty) hdn (ys := [e0]) rfl hrep hrepy hes (by intro e he; rw [List.mem_singleton.1 he, he0, hsz]) hby h63 hsp
        have hrun' : (execOp (Act.eval ⟨tmps, c.ds⟩) o).run c.P w = .ok (.value v') w' := by
         unfold execOp
         simp only [List.length_singleton, List.length_cons, List.length_nil, Nat.zero_add] at hrun hyv
         simp [hop, resolve, invoke, builtin, hxv, hyv, hrun]
        exact zzf hrun' hs hr hd (hdst d hd) (.inl rfl) hKK Q
       split at hK
       ·rename_i es hes
        obtain ⟨⟨rfl, g1, g2, g3, g4, g5, g6, g7⟩, hK⟩ := hK
        have e1 := h.ev (ds := c.ds) hx g2
        rw [hes] at e1
        obtain ⟨hrep, base, n, hv⟩ := e1
        rw [hv] at hrep
        exact fin0 es st h rfl base n n g1 g3 g4 hv hrep g5 g6 g7 (.inl rfl) hK
       ·rename_i u sz' es hes
        obtain ⟨⟨rfl, g1, g1', rfl, g2, g3, g4, g6, g7⟩, hK⟩ := hK
        have e1 := h.ev (ds := c.ds) hx g2
        rw [hes] at e1
        obtain ⟨hrep, hlen, base, n, cap, hρ, hv⟩ := e1
        rw [hv] at hrep
        refine fin0 es { st with tk := tkKill u st.tk } (h.kill u) rfl base n cap (zxX.2 g1) g3 g4 hv hrep hlen g6 g7 ?_ hK
        obtain ⟨x, m1, m2⟩ := h.tok u g1'
        obtain rfl := Option.some.inj (hρ.symm.trans m1)
        rcases m2 with m2 | ⟨b, k0, k1, k2, k3, k4, k5, k6, k7⟩
        ·exact .inl m2
        ·exact .inr ⟨b, k0, k1, k2, k5, k6, fun t' b' y a1 a2 a3 => k7 t' b' y (zyf a1).2 (zyf a1).1 a2 a3⟩
       ·rename_i s ee off n cap hes
        split at hK
        ·rename_i cs hcs
         obtain ⟨⟨rfl, g2, g3, rfl, rfl, rfl, g4, g6, g7⟩, hK1, hK2⟩ := hK
         have e1 := h.ev (ds := c.ds) hx g2
         rw [hes] at e1
         obtain ⟨k1, k2, b, hb, hv⟩ := e1
         have e2 := h.ev (ds := c.ds) hy g3
         rw [hzy] at e2
         obtain ⟨e0, he0, b2, c2, hyv, hrest⟩ := e2
         have hrepy : Rep w S (.lst [e0]) (.slice b2 [e0].length c2) := ⟨b2, c2, rfl, hrest⟩
         simp only [List.length_singleton, List.length_cons, List.length_nil, Nat.zero_add] at hyv hrepy
         obtain ⟨q1, q2⟩ := ykO (ty := o.type) h (hT _ _ hty) he0 hb hcs hrepy g4 k1 k2 g6 g7
         by_cases hroom : n + 1 ≤ cap
         ·obtain ⟨w', ρ', hrun, hs, rfl⟩ := q1 hroom
          have hrun' : (execOp (Act.eval ⟨tmps, c.ds⟩) o).run c.P w = .ok (.value (.slice (some ⟨b, 0, none⟩) (n + 1) cap)) w' := by
           unfold execOp
           simp [hop, resolve, invoke, builtin, hv, hyv, hrun]
          exact zzf (v := .vec s ee 0 (n + 1) cap) hrun' hs ⟨hroom, k2, b, hb, rfl⟩ hd (hdst d hd) (.inl rfl) (hK1 hroom) Q
         ·obtain ⟨s', hs'd, hs'm, hK3⟩ := hK2 (by omega)
          obtain ⟨w', ρ', cap', c1, c3, b', hrun, hle, hbx, hs⟩ := q2 (by omega) s' hs'm (Nat.lt_of_le_of_lt hs'd (hdst d hd).1)
          have hrun' : (execOp (Act.eval ⟨tmps, c.ds⟩) o).run c.P w = .ok (.value (.slice (some ⟨b', 0, none⟩) (n + 1) cap')) w' := by
           unfold execOp
           simp [hop, resolve, invoke, builtin, hv, hyv, hrun]
          exact zzf (v := .vec s' ee 0 (n + 1) cap') hrun' hs ⟨c1, c3, b', hbx, rfl⟩ hd (hdst d hd) (.inl rfl) (hK3 cap' c1 c3) Q
        ·exact hK.elim
       ·exact hK.elim
      rw [zWs (by rcases hg with rfl | rfl <;> simp)] at hK
      split at hK
      ·exact hK.elim
      ·rename_i ys hys
       have fin : ∀ (es : List (List D)) (stk : St) (h' : Sim c stk tmps w S ρ) (hslots : stk.slots = st.slots) (base : Option Addr) (n cap : Nat),
         getT stk.tk d = none → gd st y' = true → Act.eval ⟨tmps, c.ds⟩ x = .slice base n cap → Rep w S (.lst es) (.slice base n cap) → (∀ e ∈ es, e.length = esz) → (∀ e ∈ ys, e.length = esz) → (es.length + ys.length) * eb ≤ 2 ^ 46 → es.length + ys.length ≤ 9223372036854775807 →
         (n = cap ∨ ∃ b, base = some ⟨b, 0, none⟩ ∧ c.Own b ∧ (∃ cur e, w.heap[b]? = some (.cells cur e (0, 0)) ∧ cur.size = cap * esz) ∧
          (∀ o, n * esz ≤ o → ¬ S b o) ∧ (∀ s, ρ.box s ≠ some b) ∧ ∀ t' b' y, getT stk.tk t' = some true → ρ.tok t' = some (some ⟨b', 0, none⟩, y) → y.1 ≠ y.2.1 → b' ≠ b) →
         K { (stk.put none d (.own d esz (es ++ ys))) with tk := (d, true) :: stk.tk } → o.wp c.P ⟨tmps, c.ds⟩ w (Goes c K) Q := by
        intro es stk h' hslots base n cap hdn hgy hxv hrep hes hys' hby h63 hsp hKK
        obtain ⟨b2, m2, c2, hyv, e2⟩ := zXB h (h.ev (ds := c.ds) hy hgy) hys
        obtain ⟨v', w', S', ρ', hrun, hs, hr⟩ := yxF (ty := o.type) h' (hT _ _ hty) hdn hrep e2 hes hys' hby h63 hsp
        have hrun' : (execOp (Act.eval ⟨tmps, c.ds⟩) o).run c.P w = .ok (.value v') w' := by
         unfold execOp
         simp [hop, resolve, invoke, builtin, hxv, hyv, hrun]
        exact zzf hrun' hs hr hd (hdst d hd) (.inl rfl) hKK Q
       split at hK
       ·rename_i es hes
        obtain ⟨⟨hg0, g1, g2, g3, g4, g5, g6, g7⟩, hK⟩ := hK
        have e1 := h.ev (ds := c.ds) hx g2
        rw [hes] at e1
        obtain ⟨hrep, base, n, hv⟩ := e1
        rw [hv] at hrep
        exact fin es st h rfl base n n g1 g3 hv hrep g4 g5 g6 g7 (.inl rfl) hK
       ·rename_i u sz es hes
        obtain ⟨⟨hg0, g1, g1', rfl, g2, g3, g5, g6, g7⟩, hK⟩ := hK
        have e1 := h.ev (ds := c.ds) hx g2
        rw [hes] at e1
        obtain ⟨hrep, hlen, base, n, cap, hρ, hv⟩ := e1
        rw [hv] at hrep
        refine fin es { st with tk := tkKill u st.tk } (h.kill u) rfl base n cap (zxX.2 g1) g3 hv hrep hlen g5 g6 g7 ?_ hK
        obtain ⟨x, m1, m2⟩ := h.tok u g1'
        obtain rfl := Option.some.inj (hρ.symm.trans m1)
        rcases m2 with m2 | ⟨b, k0, k1, k2, k3, k4, k5, k6, k7⟩
        ·exact .inl m2
        ·exact .inr ⟨b, k0, k1, k2, k5, k6, fun t' b' y a1 a2 a3 => k7 t' b' y (zyf a1).2 (zyf a1).1 a2 a3⟩
       ·rename_i s ee off n cap hes
        split at hK
        ·rename_i cs hcs
         obtain ⟨⟨hg0, g2, g3, rfl, rfl, rfl, rfl, g4, g5, g6, g7⟩, s', ⟨hs'd, hs'm⟩, hK3⟩ := hK
         have e1 := h.ev (ds := c.ds) hx g2
         rw [hes] at e1
         obtain ⟨k1, k2, b, hb, hv⟩ := e1
         obtain ⟨b2, m2, c2, hyv, e2⟩ := zXB h (h.ev (ds := c.ds) hy g3) hys
         obtain ⟨w', ρ', cap', c1, c3, b', hrun, hle, hbx, hs⟩ := ykP (ty := o.type) h (hT _ _ hty) g5 hb hcs e2 g4 g6 g7 hs'm (Nat.lt_of_le_of_lt hs'd (hdst d hd).1)
         have hrun' : (execOp (Act.eval ⟨tmps, c.ds⟩) o).run c.P w = .ok (.value (.slice (some ⟨b', 0, none⟩) ys.length cap')) w' := by
          unfold execOp
          simp [hop, resolve, invoke, builtin, hv, hyv, hrun]
         exact zzf (v := .vec s' ee 0 ys.length cap') hrun' hs ⟨c1, c3, b', hbx, rfl⟩ hd (hdst d hd) (.inl rfl) (hK3 cap' c1 c3) Q
        ·exact hK.elim
       ·exact hK.elim
     ·cases htr
    ·cases htr
   ·cases htr
end Go.Abs
end

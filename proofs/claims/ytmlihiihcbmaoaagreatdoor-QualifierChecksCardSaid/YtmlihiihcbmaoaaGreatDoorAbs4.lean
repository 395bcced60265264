/-
  A LIBRARY OF THE PROOF: an abstract machine over the texts of the translated functions, whose values are plain data, proved sound with regard to the kit's law of calls (names shortened by program).
-/
import Derived.Test.YtmlihiihcbmaoaaGreatDoorAbs3
set_option linter.unusedSimpArgs false
set_option linter.unusedVariables false
set_option linter.unusedSectionVars false
set_option maxRecDepth 100000
section
namespace Go.Abs
open Go.RowKit
variable {T : Nat → Option Ty} {P : Program} {G : Nat → Option (List D)} {N : Nat} {E : AEnv} {st : St} {tmps : Array Value} {w : World} {S : Safe} {ρ : Rho}
structure YB (P : Program) (G : Nat → Option (List D)) (l : Nat) (xs : List (List CV)) (base : Nat) (J : Option (List (List CV)) → World → Safe → (Nat → Prop) → Prop) : Prop where
 grow : ∀ o W S1 Y W' S2, J o W S1 Y → GrowsB base Y W S1 W' S2 → J o W' S2 Y
 ok : ∀ o W S1 Y, J o W S1 Y → Live W S1 ∧ Exact P G W ∧ base ≤ W.heap.size ∧ ∀ k, Y k → k < W.heap.size
 gb : P.globals.size ≤ base
 yield : ∀ pre x rest W S1 Y vs, xs = pre ++ x :: rest → J (some pre) W S1 Y → RepCL W S1 x vs → YieldAt Fence.wide 0 P l vs.toArray W fun e W' =>
   ∃ (b : Bool) (S2 : Safe) (Y2 : Nat → Prop), e = .returned (.bool b) ∧ J (if b then some (pre ++ [x]) else none) W' S2 Y2 ∧ FrameY Y W S1 W' S2 Y2
def cy (P : Program) (G : Nat → Option (List D)) (N : Nat) (pn : List (Nat × Nat)) (w : World) (S : Safe) (X : List Nat) : Ctx := { P := P, G := G, w0 := w, S0 := S, N := N, X := X, kx := some (w, S), pin := pn }
variable {l base : Nat} {xs : List (List CV)} {J : Option (List (List CV)) → World → Safe → (Nat → Prop) → Prop} {o : Option (List (List CV))} {pn : List (Nat × Nat)} {z : World × Safe}
def YSim (P : Program) (G : Nat → Option (List D)) (N : Nat) (pn : List (Nat × Nat)) (z : World × Safe) (base : Nat) (J : Option (List (List CV)) → World → Safe → (Nat → Prop) → Prop) (o : Option (List (List CV))) (st : St) (tmps : Array Value) (w : World) (S : Safe) (ρ : Rho) : Prop :=
 ∃ X Y, Sim (cy P G N pn w S X) st tmps w S ρ ∧ J o w S Y ∧ (∀ b ∈ X, base ≤ b ∧ b < w.heap.size ∧ ¬ Y b) ∧ Keeps z.1 z.2 w S
theorem ystep (hY : YB P G l xs base J) {W0 : World} {S0 : Safe} {X : List Nat} {Y : Nat → Prop} (hJ : J o W0 S0 Y) (hX : ∀ b ∈ X, base ≤ b ∧ b < W0.heap.size ∧ ¬ Y b) (h : Sim (cy P G N pn W0 S0 X) st tmps w S ρ) (hz : Keeps z.1 z.2 W0 S0) : YSim P G N pn z base J o st tmps w S ρ := by
 obtain ⟨_, _, hb0, hYlt⟩ := hY.ok _ _ _ _ hJ
 have hown : ∀ b, (cy P G N pn W0 S0 X).Own b → base ≤ b ∧ ¬ Y b := fun b ho => by
  rcases ho with ho | ⟨ho, _⟩
  ·have ho : W0.heap.size ≤ b := ho
   exact ⟨by omega, fun hy => by have := hYlt b hy; omega⟩
  ·exact ⟨(hX b ho).1, (hX b ho).2.2⟩
 have hsz : W0.heap.size ≤ w.heap.size := h.below.size
 have hg : GrowsB base Y W0 S0 w S := ⟨⟨h.below.os, h.below.tape, h.below.output, h.below.size, fun k hk => h.below.block k fun ho => hk (hown k ho)⟩, h.keeps _ rfl, fun b o hs => (h.new b o hs).imp id (hown b), h.live⟩
 have hb := h.base (X := X ++ List.range' W0.heap.size (w.heap.size - W0.heap.size)) (fun b ho hl => by
  rcases ho with ho | ⟨ho, _⟩
  ·have ho : W0.heap.size ≤ b := ho
   exact List.mem_append_right _ (List.mem_range'_1.2 ⟨ho, by omega⟩)
  ·exact List.mem_append_left _ ho)
 refine ⟨_, Y, { size := hb.size, slots := hb.slots, mem := hb.mem, inj := hb.inj, boxNew := hb.boxNew, mps := hb.mps, tok := hb.tok, tokNew := hb.tokNew, below := hb.below, old := hb.old, new := hb.new, live := hb.live, glob := hb.glob, fx := hb.fx, obs := hb.obs, keeps := fun p hp => (by cases hp; exact Keeps.refl _ _), ex := hb.ex, pins := hb.pins }, hY.grow _ _ _ _ _ _ hJ hg, fun b hbm => ?_, hz.trans (h.keeps _ rfl)⟩
 rcases List.mem_append.1 hbm with hm | hm
 ·obtain ⟨h1, h2, h3⟩ := hX b hm
  exact ⟨h1, by omega, h3⟩
 ·have := List.mem_range'_1.1 hm
  exact ⟨by omega, by omega, fun hy => by have := hYlt b hy; omega⟩
theorem ymoved (hY : YB P G l xs base J) {W' : World} {S2 : Safe} {X : List Nat} {Y Y2 : Nat → Prop} {o2 : Option (List (List CV))} (h : Sim (cy P G N pn w S X) st tmps w S ρ) (hX : ∀ b ∈ X, base ≤ b ∧ b < w.heap.size ∧ ¬ Y b) (hf : FrameY Y w S W' S2 Y2) (hJ2 : J o2 W' S2 Y2) (hz : Keeps z.1 z.2 w S) : YSim P G N pn z base J o2 st tmps W' S2 ρ := by
 obtain ⟨g1, g2, g3, g4⟩ := hf
 obtain ⟨hlive, hex, hb0, hYlt⟩ := hY.ok _ _ _ _ hJ2
 have hin : ∀ b, (cy P G N pn w S X).Own b → b < w.heap.size → b ∈ X ∧ P.globals.size ≤ b := fun b hb hl => by
  rcases hb with h1 | h1
  ·have : w.heap.size ≤ b := h1
   omega
  ·exact h1
 have hsame : ∀ b, b ∈ X → W'.heap[b]? = w.heap[b]? := fun b hb => g1.block b fun e => by
  obtain ⟨_, h2, h3⟩ := hX b hb
  rcases e with e | e
  ·omega
  ·exact h3 e
 have hsafe : ∀ b o, b ∈ X → S2 b o → S b o := fun b o hb hs2 => by
  obtain ⟨_, h2, h3⟩ := hX b hb
  rcases g3 b o hs2 with e | e | e
  ·exact e
  ·omega
  ·exact absurd e h3
 refine ⟨X, Y2, { size := h.size, slots := fun k => (h.slots k).keep g2 ρ.le_refl, mem := fun s cs hs hm => ?_, inj := h.inj, boxNew := h.boxNew, mps := { at' := fun s k e kvs hs => ?_, inj := h.mps.inj, new := h.mps.new, lt := fun s b hs => Nat.lt_of_lt_of_le (h.mps.lt s b hs) g1.size, apart := h.mps.apart }, tok := fun t ht => ?_, tokNew := h.tokNew, below := BelowO.refl (cy P G N pn W' S2 X), old := fun _ _ hs => hs, new := fun _ _ hs => .inl hs, live := hlive, glob := fun g cs hg => RepCs.keep g2 g 0 cs (h.glob g cs hg), fx := h.fx, obs := fun p hp => (by cases hp), keeps := fun p hp => (by cases hp; exact Keeps.refl _ _), ex := hex, pins := h.pins }, hJ2, fun b hb => ?_, hz.trans g2⟩
 ·obtain ⟨b, vs, e, h1, h2, h3, h4, h5⟩ := h.mem s cs hs hm
  obtain ⟨k1, k2⟩ := hin b h2 (Array.getElem?_eq_some_iff.1 h3).1
  exact ⟨b, vs, e, h1, .inr ⟨k1, k2⟩, (hsame b k1).trans h3, RepAs.keep g2 ρ.le_refl cs _ h4, fun o hs2 => h5 o (hsafe b o k1 hs2)⟩
 ·obtain ⟨b, h1, h2, h3, h4⟩ := h.mps.at' s k e kvs hs
  obtain ⟨k1, k2⟩ := hin b h3 h4.lt
  exact ⟨b, h1, h2, .inr ⟨k1, k2⟩, h4.to g2 (hsame b k1)⟩
 ·obtain ⟨x, h1, h2⟩ := h.tok t ht
  refine ⟨x, h1, ?_⟩
  rcases h2 with h2 | ⟨b, q0, q1, ⟨cur, e, q2, q3⟩, q4, q5, q6, q7, q8⟩
  ·exact .inl h2
  ·obtain ⟨k1, k2⟩ := hin b q1 (Array.getElem?_eq_some_iff.1 q2).1
   exact .inr ⟨b, q0, .inr ⟨k1, k2⟩, ⟨cur, e, (hsame b k1).trans q2, q3⟩, q4, q5, fun o ho hs2 => q6 o ho (hsafe b o k1 hs2), q7, q8⟩
 ·obtain ⟨h1, h2, h3⟩ := hX b hb
  refine ⟨h1, Nat.lt_of_lt_of_le h2 g1.size, fun e => ?_⟩
  rcases g4 b e with e | e
  ·exact h3 e
  ·omega
theorem yreg (hY : YB P G l xs base J) (hG : E.G = G) (hC : ∀ f args r, E.C f args r → Ev P G f args r) (hT : ∀ t ty, T t = some ty → chkTy P t ty = true) (hm : P.follows .mixedOrders = true) {cd : Code} {ac : AC} (htr : tr T N cd = some ac) {id : Nat} {ops : Array Oper} {draw : Bool} (hcd : cd = .region id ops draw)
  {m : Nat} {K : St → Prop} {R : Exit → Act → World → Prop} (h : YSim P G N pn z base J o st tmps w S ρ) (hq : awp E ac (fun x s => x = .normal ∧ K s) st) (hR : ∀ st' tm' w' S' ρ', YSim P G N pn z base J o st' tm' w' S' ρ' → K st' → R .normal ⟨tm', []⟩ w') : cd.wpIn (FR none) m P R ⟨tmps, []⟩ w := by
 subst hcd
 obtain ⟨X, Y, hs, hJ, hX, hz⟩ := h
 refine zXd (c := cy P G N pn w S X) hG hC hT hm htr (fun d _ => rfl) (FR.fw none) m ?_ hs hq
 rintro ⟨tm, ds⟩ w' ⟨hd, st', S', ρ', h', _, hk⟩
 simp only [cy] at hd
 subst hd
 exact hR _ _ _ _ _ (ystep hY hJ hX h' hz) hk
theorem ycond {x : Operand} {c1 c2 : Code} {g : X} (hx : trX x = some g) (hs : YSim P G N pn z base J o st tmps w S ρ) {b : Bool} (hg : ev st g = .d (.bool b)) (hgd : gd st g = true) {Q : Exit → Act → World → Prop} {m : Nat}
  (ht : b = true → c1.wpIn (FR none) m P Q ⟨tmps, []⟩ w) (hf : b = false → c2.wpIn (FR none) m P Q ⟨tmps, []⟩ w) : (Code.cond x c1 c2).wpIn (FR none) m P Q ⟨tmps, []⟩ w := by
 obtain ⟨X, Y, hs, _⟩ := hs
 have hev := hs.ev (ds := []) hx hgd
 rw [hg] at hev
 simp only [RepA, Rep] at hev
 exact wpIn_cond_split hev ht hf
theorem YSim.put (h : YSim P G N pn z base J o st tmps w S ρ) {d : Nat} (hd : d < N) {a : AV} {v : Value} (hv : RepA w S ρ a v) : YSim P G N pn z base J o (st.put none d a) (tmps.setIfInBounds d v) w S ρ := by
 obtain ⟨X, Y, hs, h1, h2⟩ := h
 exact ⟨X, Y, hs.put ⟨hd, rfl⟩ hv none (fun b hb => by cases hb), h1, h2⟩
theorem yvF (hY : YB P G l xs base J) {a b : List (List CV)} {x : List CV} (hxs : xs = a ++ x :: b) (h : YSim P G N pn z base J (some a) st tmps w S ρ) {op : Oper} {d : Nat} {f' : X} {args' : List X} (htr : trOp T op.dst op.op = some (.call (some d) f' args')) (hd : d < N)
  (hf : ev st f' = .d (.yl l)) (hgf : gd st f' = true) (hga : gds st args' = true) (hx : toCVs [] 1 (evs st args') = some x) {m : Nat} {K : Act → World → Prop} {Q : Exit → Act → World → Prop}
  (hK : ∀ (bb : Bool) W' S2 tm', YSim P G N pn z base J (if bb then some (a ++ [x]) else none) (st.put none d (.d (.bool bb))) tm' W' S2 ρ → K ⟨tm', []⟩ W') : op.wpIn (FR none) m P ⟨tmps, []⟩ w K Q := by
 obtain ⟨f, args, argTypes, hdst, hop, hfx, hax⟩ := zVX htr
 obtain ⟨X, Y, hs, hJ, hX, hz⟩ := h
 have e1 := hs.ev (ds := []) hfx hgf
 rw [hf] at e1
 simp only [RepA, Rep] at e1
 have e2 := zva (zz0 (w := w) (S := S) (ρ := ρ)) 1 (hs.evs (ds := []) hax hga) hx
 obtain ⟨fn, tm, as, bd, hrun, hR⟩ := hY.yield a x b w S Y _ hxs hJ e2
 have hrun' : (execOp (Act.eval ⟨tmps, []⟩) op).run P w = .ok (.round l fn tm as bd) w := by
  unfold execOp
  simp only [hop]
  have : (args.toList.map (Act.eval ⟨tmps, []⟩)).toArray = args.map (Act.eval ⟨tmps, []⟩) := by rw [← Array.toList_map]
  rw [this] at hrun
  simp [resolve, Deferred.ofValue, e1, invoke, hrun]
 refine ⟨fun _ _ => trivial, ?_⟩
 rw [Oper.semAt_eq _ _ _ (fun c hc => by rw [hop] at hc; cases hc), hrun', Oper.uponIn_round]
 refine ⟨(by intro hd; cases hd), (zJl hR).mono ?_⟩
 rintro e W' ⟨bb, S2, Y2, rfl, hJ2, hf2⟩
 simp only [Act.put, hdst]
 exact hK bb W' S2 _ ((ymoved hY hs hX hf2 hJ2 hz).put hd (a := .d (.bool bb)) (v := .bool bb) rfl)
def EvYB (P : Program) (G : Nat → Option (List D)) (xs : List (List CV)) (base : Nat) (J : Option (List (List CV)) → World → Safe → (Nat → Prop) → Prop) (f : FuncId) (as : List AV) (m0 : Mem) (fx : List Nat) (ys : List (List CV)) (Post : Mem → Prop) : Prop :=
 Enters P f ∧ ∀ (a b : List (List CV)) (pn : List (Nat × Nat)) (z : World × Safe) (w : World) (S : Safe) (ρ : Rho) (cargs : Array Value), xs = a ++ ys ++ b → (∀ p ∈ pn, 1000 ≤ p.1) → (∀ s b, s ∈ fx → ρ.box s = some b → (s, b) ∈ pn) → YSim P G 0 pn z base J (some a) ⟨[], m0, []⟩ #[] w S ρ → RepAs w S ρ as cargs.toList →
  Calls P f cargs w fun e w' => ∃ (bb : Bool) (S' : Safe) (ρ' : Rho) (m1 : Mem), e = .returned (.bool bb) ∧ YSim P G 0 pn z base J (if bb then some (a ++ ys) else none) ⟨[], m1, []⟩ #[] w' S' ρ' ∧ Post m1
theorem Sim.noSlots {c : Ctx} {m : Mem} {tk : List (Nat × Bool)} {sl : List (Nat × AV)} (h : Sim c ⟨sl, m, tk⟩ tmps w S ρ) (hf : ∀ k, c.kp k = false) : Sim { c with N := 0 } ⟨[], m, tk⟩ #[] w S ρ :=
 { size := rfl, slots := fun _ => trivial, mem := h.mem, inj := h.inj, boxNew := h.boxNew, mps := h.mps, tok := h.tok, tokNew := h.tokNew, below := h.below, old := h.old, new := h.new, live := h.live, glob := h.glob, ex := h.ex, fx := fun k hk => (by have := hf k; simp only at hk; rw [this] at hk; cases hk), obs := h.obs, keeps := h.keeps, pins := ⟨fun p hp => ⟨Nat.zero_le _, (h.pins.1 p hp).2⟩, fun p hp => ⟨Nat.zero_le _, (h.pins.2 p hp).2⟩⟩ }
def keepY (fx : List Nat) : AV → Prop
 | .d _ => True
 | .ptr s _ => s ∈ fx
 | .undef => True
 | _ => False
theorem RepA.keepY {fx : List Nat} {a : AV} {v : Value} {w' : World} {S' : Safe} {ρ' : Rho} (h : RepA w S ρ a v) (ha : Go.Abs.keepY fx a) (hk : Keeps w S w' S') (hb : ∀ s b, s ∈ fx → ρ.box s = some b → ρ'.box s = some b) : RepA w' S' ρ' a v := by
 cases a with
 | d x => exact Rep.keep hk _ _ h
 | ptr s off =>
  obtain ⟨b, h1, h2⟩ := h
  exact ⟨b, hb s b ha h1, h2⟩
 | undef => trivial
 | _ => exact ha.elim
theorem yjo (hY : YB P G l xs base J) {a b ys : List (List CV)} (hxs : xs = a ++ ys ++ b) {m0 : Mem} {sl0 : List (Nat × AV)} (h : YSim P G N pn z base J (some a) ⟨sl0, m0, []⟩ tmps w S ρ) {op : Oper} {d : Nat} {f' : X} {args' : List X} (htr : trOp T op.dst op.op = some (.call (some d) f' args')) (hd : d < N) {fid : FuncId} {caps : List AV}
  (hf : ev ⟨sl0, m0, []⟩ f' = .clo fid caps) (hgf : gd ⟨sl0, m0, []⟩ f' = true) (hga : gds ⟨sl0, m0, []⟩ args' = true) {fx : List Nat} {Post : Mem → Prop} (hV : EvYB P G xs base J fid (evs ⟨sl0, m0, []⟩ args' ++ caps) m0 fx ys Post) (hpn : ∀ p ∈ pn, 1000 ≤ p.1) (hfx : ∀ s ∈ fx, ∃ b, (s, b) ∈ pn) (hpm : ∀ m1, Post m1 → ∀ s ∈ fx, ∃ cs, getM m1 s = some cs ∧ isMp cs = false) (sl : List (Nat × AV)) (hsl : ∀ k, getS sl k = .undef ∨ (getS sl k = getS sl0 k ∧ keepY fx (getS sl k)))
  {m : Nat} {K : Act → World → Prop} {Q : Exit → Act → World → Prop}
  (hK : ∀ (bb : Bool) W' S2 ρ' tm' m1, YSim P G N pn z base J (if bb then some (a ++ ys) else none) ⟨(d, .d (.bool bb)) :: sl, m1, []⟩ tm' W' S2 ρ' → Post m1 → K ⟨tm', []⟩ W') : op.wpIn (FR none) m P ⟨tmps, []⟩ w K Q := by
 obtain ⟨f, args, argTypes, hdst, hop, hfo, hax⟩ := zVX htr
 obtain ⟨X, Y, hs, hJ, hX, hz⟩ := h
 have e1 := hs.ev (ds := []) hfo hgf
 rw [hf] at e1
 obtain ⟨cs, hv, hcaps⟩ := e1
 have e2 := RepAs.append (hs.evs (ds := []) hax hga) hcaps
 obtain ⟨⟨fn, hfn, hname, hbody⟩, hcalls⟩ := hV
 have hrun' : (execOp (Act.eval ⟨tmps, []⟩) op).run P w = .ok (.enter fid (args.map (Act.eval ⟨tmps, []⟩) ++ cs)) w := by
  unfold execOp
  simp only [hop]
  have hname' : ¬ fn.name = "runtime.NumGoroutine" := by simpa using hname
  have hbody' : ¬ fn.body = none := by intro e; simp [e] at hbody
  simp [resolve, invoke, callFunc, Deferred.ofValue, hv, hfn, hname', hbody']
 refine ⟨fun _ _ => trivial, ?_⟩
 rw [Oper.semAt_eq _ _ _ (fun c hc => by rw [hop] at hc; cases hc), hrun', Oper.uponIn_enter]
 have hpin : ∀ s b, s ∈ fx → ρ.box s = some b → (s, b) ∈ pn := fun s b hs' hb => by
  obtain ⟨b0, h0⟩ := hfx s hs'
  rw [(hs.pins.1 (s, b0) h0).2 b hb]; exact h0
 refine ⟨(by intro hd; cases hd), zvO (FR.fw none) ((hcalls a b pn (w, S) w S ρ _ hxs hpn hpin ⟨X, Y, Sim.noSlots (c := cy P G N pn w S X) hs (fun _ => rfl), hJ, hX, Keeps.refl _ _⟩ (by simpa using e2)).mono ?_)⟩
 rintro e W' ⟨bb, S2, ρ', m1, rfl, ⟨X2, Y2, hs2, hJ2, hX2, hkeep⟩, hpost⟩
 simp only [Act.put, hdst]
 have hbx : ∀ s b, s ∈ fx → ρ.box s = some b → ρ'.box s = some b := fun s b hs' hb => by
  obtain ⟨cs', g1, g2⟩ := hpm m1 hpost s hs'
  obtain ⟨b', _, _, g3, _⟩ := hs2.mem s cs' g1 g2
  rw [g3, (hs2.pins.1 (s, b) (hpin s b hs' hb)).2 b' g3]
 refine hK bb W' S2 ρ' _ m1 (YSim.put (st := ⟨sl, m1, []⟩) ⟨X2, Y2, ?_, hJ2, hX2, hz.trans hkeep⟩ hd (a := .d (.bool bb)) (v := .bool bb) rfl) hpost
 refine { size := hs.size, slots := fun k => ?_, mem := hs2.mem, inj := hs2.inj, boxNew := hs2.boxNew, mps := hs2.mps, tok := hs2.tok, tokNew := hs2.tokNew, below := hs2.below, old := hs2.old, new := hs2.new, live := hs2.live, glob := hs2.glob, ex := hs2.ex, fx := fun k hk => (by cases hk), obs := fun p hp => (by cases hp), keeps := hs2.keeps, pins := ⟨fun p hp => ⟨(hs.pins.1 p hp).1, (hs2.pins.1 p hp).2⟩, fun p hp => (by cases hp)⟩ }
 rcases hsl k with hk | ⟨hk, hk2⟩
 ·simp only; rw [hk]; trivial
 ·have := hs.slots k
  simp only at this ⊢
  rw [← hk] at this
  exact this.keepY hk2 hkeep hbx
theorem ykS {fn : Func} {as : List AV} {cargs : Array Value} {m0 : Mem} (hn : as.length ≤ fn.ntmps) (hN : fn.ntmps ≤ 1000) (hpn : ∀ p ∈ pn, 1000 ≤ p.1) (h : YSim P G 0 pn z base J o ⟨[], m0, []⟩ #[] w S ρ) (hargs : RepAs w S ρ as cargs.toList) : YSim P G fn.ntmps pn z base J o ⟨initA 0 as, m0, []⟩ (cargs ++ Array.replicate (fn.ntmps - cargs.size) undef) w S ρ := by
 obtain ⟨X, Y, hs, hJ, hX, hz⟩ := h
 refine ⟨X, Y, ?_, hJ, hX, hz⟩
 have hlen := RepAs.length hargs
 simp only [Array.length_toList] at hlen
 refine { size := by simp [cy]; omega, slots := fun k => ?_, mem := hs.mem, inj := hs.inj, boxNew := hs.boxNew, mps := hs.mps, tok := hs.tok, tokNew := hs.tokNew, below := hs.below, old := hs.old, new := hs.new, live := hs.live, glob := hs.glob, ex := hs.ex, fx := fun k hk => (by cases hk), obs := fun p hp => (by cases hp), keeps := hs.keeps, pins := ⟨fun p hp => ⟨Nat.le_trans hN (hpn p hp), (hs.pins.1 p hp).2⟩, fun p hp => (by cases hp)⟩ }
 rcases zWi (ρ := ρ) (k := 0) hargs k with h1 | h1
 ·rw [if_neg (by omega)] at h1
  have : (cargs ++ Array.replicate (fn.ntmps - cargs.size) undef).getD k undef = cargs.toList.getD (k - 0) undef := by
   simp only [Array.getD_eq_getD_getElem?, Nat.sub_zero, List.getD_eq_getElem?_getD, Array.getElem?_toList]
   by_cases hk : k < cargs.size
   ·rw [Array.getElem?_append_left hk]
   ·have hnone : cargs[k]? = none := Array.getElem?_eq_none (by omega)
    rw [Array.getElem?_append_right (by omega), hnone]
    by_cases hk2 : k - cargs.size < fn.ntmps - cargs.size
    ·simp [hk2]
    ·simp [hk2]
  rw [this]; exact h1
 ·rw [h1]; trivial
theorem y_ret (hT : ∀ t ty, T t = some ty → chkTy P t ty = true) {fn : Func} {k : Nat} (hrs : fn.results.toList.mapM (trRes T) = some [.t k]) (h : YSim P G N pn z base J o st tmps w S ρ) {b : Bool} (hk : getS st.slots k = .d (.bool b)) : (results fn tmps).run P w = .ok (.bool b) w := by
 obtain ⟨X, Y, h, _⟩ := h
 obtain ⟨vs, hrun, hrep⟩ := zvL h hT hrs (l := [.one (.bool b)]) (by simp [resCVs0, resCV0, resAV, hk, AV.toCV, AV.toD])
 obtain ⟨v, r', q1, q2, q3⟩ := hrep
 simp only [RepCL] at q3
 subst q3
 subst q1
 simp only [RepC, Rep] at q2
 subst q2
 rw [zx7, Array.mapM_eq_mapM_toList]
 have hrunP : (fn.results.toList.mapM (rvRun tmps)).run P w = .ok [.bool b] w := hrun
 simp only [Sem.run_bind, Sem.run_map, hrunP]
 simp
theorem YSim.ent (h : YSim P G N pn z base J o st tmps w S ρ) {st1 : St} (he : Ent st st1) : ∃ ρ1, YSim P G N pn z base J o st1 tmps w S ρ1 := by
 obtain ⟨X, Y, hs, h1, h2⟩ := h
 obtain ⟨ρ1, hs1⟩ := he.sound hs
 exact ⟨ρ1, X, Y, hs1, h1, h2⟩
end Go.Abs
end
section
namespace Go.Abs
open Go.RowKit
variable {T : Nat → Option Ty} {P : Program} {G : Nat → Option (List D)} {N : Nat} {E : AEnv} {st : St} {tmps : Array Value} {w : World} {S : Safe} {ρ : Rho}
theorem yx8 {cd : Code} {l : List (Option (Nat × Bool) × I)} (h : tr T N cd = some (.regd l)) : ∃ id ops, cd = .region id ops true ∧ trOps T ops.toList = some l ∧ okDst N ops.toList = true ∧ dok ops.toList l = true := by
 cases cd <;> simp only [tr, Option.bind_eq_bind, Option.pure_def, reduceCtorEq, Option.bind_eq_some_iff, Option.some.injEq] at h
 case region id ops draw =>
  obtain ⟨l', hl, h⟩ := h
  split at h
  ·rename_i hok
   split at h
   ·rename_i hdr
    split at h
    ·rename_i hd
     cases h
     subst hdr
     exact ⟨id, ops, rfl, hl, hok, hd⟩
    ·rcases zyM h with ⟨_, _, _, _, h', _⟩ | ⟨h', _⟩ | ⟨_, h', _⟩ <;> cases h'
   ·cases h
  ·cases h
 all_goals (exfalso; revert h; (try (repeat' split)) <;> intro h <;> simp at h)
theorem yjm {cd : Code} {a b : AC} (h : tr T N cd = some (.alt a b)) : False := by
 cases cd <;> simp only [tr, Option.bind_eq_bind, Option.pure_def, reduceCtorEq, Option.bind_eq_some_iff, Option.some.injEq] at h
 case region id ops draw =>
  obtain ⟨l', hl, h⟩ := h
  repeat' split at h
  all_goals first
   | (rcases zyM h with ⟨_, _, _, _, h', _⟩ | ⟨h', _⟩ | ⟨_, h', _⟩ <;> cases h')
   | cases h
 all_goals (revert h; (try (repeat' split)) <;> intro h <;> simp at h)
theorem yvB {cd : Code} {x y a b : AC} (h : tr T N cd = some (.scope (.seq x (.seq y (.alt a b))))) : ∃ id ops draw, cd = .region id ops draw := by
 cases cd <;> simp only [tr, Option.bind_eq_bind, Option.pure_def, reduceCtorEq, Option.bind_eq_some_iff, Option.some.injEq] at h
 case region id ops draw => exact ⟨id, ops, draw, rfl⟩
 case scope c =>
  exfalso
  obtain ⟨a1, e1, h⟩ := h
  cases h
  obtain ⟨_, _, rfl, _, h2⟩ := zzV e1
  obtain ⟨_, _, rfl, _, h3⟩ := zzV h2
  exact yjm h3
 all_goals (exfalso; revert h; (try (repeat' split)) <;> intro h <;> simp at h)
theorem zy5 {cd : Code} {l : List (Option (Nat × Bool) × I)} (h : tr T N cd = some (.reg l)) : ∃ id ops draw, cd = .region id ops draw := by
 obtain ⟨id, ops, rfl, _⟩ := zXg h; exact ⟨id, ops, false, rfl⟩
theorem ykw {cd : Code} {l : List (Option (Nat × Bool) × I)} (h : tr T N cd = some (.regd l)) : ∃ id ops draw, cd = .region id ops draw := by
 obtain ⟨id, ops, rfl, _⟩ := yx8 h; exact ⟨id, ops, true, rfl⟩
theorem ywE {ops : List Oper} {l : List (Option (Nat × Bool) × I)} (hdok : dok ops l = true) (hlen : l.length = ops.length) {listed : Nat → Bool} {i j : Nat} (hcl : ClosedL ops listed) (hed : EdgesIn ops listed i) (hji : j < i) (hi : i < ops.length) (hap : apart (l.getD j default) (l.getD i default) = false) : listed j = true := by
 simp only [dok, Bool.and_eq_true] at hdok
 have hpreds := zwC (ops := ops) ops [] (by simp) (fun k => by intro _ _ _ j hj; simp at hj)
 have hrow := zqA hdok.1.2 hi l[i] (List.getElem?_eq_getElem (by omega))
 have hg : ∀ k (hk : k < l.length), l.getD k default = l[k] := fun k hk => by simp [List.getD, List.getElem?_eq_getElem hk]
 rcases zqB hrow hji with h1 | h1
 ·exact hpreds i listed hcl hed j h1
 ·have := h1 l[j] (List.getElem?_eq_getElem (by omega))
  rw [hg j (by omega), hg i (by omega), this] at hap
  cases hap
variable {l base : Nat} {xs : List (List CV)} {J : Option (List (List CV)) → World → Safe → (Nat → Prop) → Prop} {o : Option (List (List CV))} {pn : List (Nat × Nat)} {z : World × Safe}
theorem y_op (hY : YB P G l xs base J) (hG : E.G = G) (hC : ∀ f args r, E.C f args r → Ev P G f args r) (hT : ∀ t ty, T t = some ty → chkTy P t ty = true) {ops : Array Oper} {os : List (Option (Nat × Bool) × I)} (htr : trOps T ops.toList = some os) (hok : okDst N ops.toList = true) {i : Nat} (hi : i < ops.size)
  (h : YSim P G N pn z base J o st tmps w S ρ) {K : St → Prop} (hK : aop E (os.getD i default).1 (os.getD i default).2 st K) {m : Nat} {K' : Act → World → Prop} {Q : Exit → Act → World → Prop} (hK' : ∀ st' tm' w' S' ρ', YSim P G N pn z base J o st' tm' w' S' ρ' → K st' → K' ⟨tm', []⟩ w') : wpOpIn (FR none) m P ops Q i K' ⟨tmps, []⟩ w := by
 obtain ⟨X, Y, hs, hJ, hX, hz⟩ := h
 obtain ⟨hlen, hget⟩ := zye htr
 obtain ⟨gi, ii, hgii, htg, hti⟩ := hget i ops[i] (by simp [hi])
 have hld : os.getD i default = (gi, ii) := by simp [List.getD, hgii]
 rw [hld] at hK
 refine zq0 (c := cy P G N pn w S X) hG hC hT hs (Array.getElem?_eq_getElem hi) htg hti (fun d hd => ⟨zvJ hok (by simp) hd, rfl⟩) hK ?_ Q (FR.fw none) m
 rintro ⟨tm, ds⟩ w' ⟨hd, st', S', ρ', h', hk⟩
 simp only [cy] at hd
 subst hd
 exact hK' _ _ _ _ _ (ystep hY hJ hX h' hz) hk
theorem y_pre (hY : YB P G l xs base J) (hG : E.G = G) (hC : ∀ f args r, E.C f args r → Ev P G f args r) (hT : ∀ t ty, T t = some ty → chkTy P t ty = true) {ops : Array Oper} {os : List (Option (Nat × Bool) × I)} (htr : trOps T ops.toList = some os) (hok : okDst N ops.toList = true) {m : Nat} {Q : Exit → Act → World → Prop} {K : St → Prop} (rest : List Nat) (n k : Nat) (hk : k + n ≤ ops.size)
  (h : YSim P G N pn z base J o st tmps w S ρ) (hK : aops E ((os.drop k).take n) K st) (hQ : ∀ st' tm' w' S' ρ', YSim P G N pn z base J o st' tm' w' S' ρ' → K st' → wpOpsIn (FR none) m P ops Q rest ⟨tm', []⟩ w') : wpOpsIn (FR none) m P ops Q (List.range' k n ++ rest) ⟨tmps, []⟩ w := by
 obtain ⟨X, Y, hs, hJ, hX, hz⟩ := h
 refine zqj (c := cy P G N pn w S X) hG hC hT htr (fun o ho d hd => ⟨zvJ hok ho hd, rfl⟩) (FR.fw none) m Q rest n k hk ?_ hs hK
 rintro ⟨tm, ds⟩ w' ⟨hd, st', S', ρ', h', hk'⟩
 simp only [cy] at hd
 subst hd
 exact hQ _ _ _ _ _ (ystep hY hJ hX h' hz) hk'
theorem YSim.eq (h : YSim P G N pn z base J o st tmps w S ρ) {st1 : St} (he : StEq st1 st) : YSim P G N pn z base J o st1 tmps w S ρ := by
 obtain ⟨X, Y, hs, h1, h2⟩ := h
 exact ⟨X, Y, hs.eq he, h1, h2⟩
theorem ykW {K : St → Prop} {d esz eb s n cap s' : Nat} {x y : X} {cs : List AV} (hy : ev st y = .zsl esz) (hx : ev st x = .vec s esz 0 n cap) (hm : getM st.mem s = some cs) (hgx : gd st x = true) (hgy : gd st y = true) (hcap : cap * esz ≤ cs.length) (hb : (n + 1) * eb ≤ 2 ^ 46) (h63 : n + 1 ≤ 9223372036854775807)
  (h1 : n + 1 ≤ cap → K { (st.put none d (.vec s esz 0 (n + 1) cap)) with mem := (s, cs.take (n * esz) ++ List.replicate esz .undef ++ cs.drop (n * esz + esz)) :: st.mem }) (hs' : s' ≤ d) (hn : getM st.mem s' = none)
  (h2 : ∀ cap', n + 1 ≤ cap' → cap' ≤ 9223372036854775807 → K { (st.put none d (.vec s' esz 0 (n + 1) cap')) with mem := (s', cs.take (n * esz) ++ List.replicate (cap' * esz - n * esz) .undef) :: st.mem }) : aops E [(none, .app d esz eb x y)] K st := by
 simp only [aops, aop, guardOf, aopW, aopG, hy, hx, hm]
 exact ⟨⟨by simp, hgx, hgy, by simp, by simp, by simp, hcap, hb, h63⟩, h1, fun _ => ⟨s', hs', hn, h2⟩⟩
theorem zZo (m1 : Mem) (mp : TMap) : ∀ (ds : List D), EntCs m1 mp (ds.map .d) (ds.map .d)
 | [] => trivial
 | _ :: ds => ⟨rfl, zZo m1 mp ds⟩
theorem zxK {m1 : Mem} {mp : TMap} : ∀ {a b c d : List AV}, EntCs m1 mp a b → EntCs m1 mp c d → EntCs m1 mp (a ++ c) (b ++ d)
 | [], [], _, _, _, h => h
 | _ :: _, _ :: _, _, _, h, h' => ⟨h.1, zxK h.2 h'⟩
 | [], _ :: _, _, _, h, _ => h.elim
 | _ :: _, [], _, _, h, _ => h.elim
theorem zjm (m1 : Mem) (mp : TMap) : ∀ {cs : List AV}, (∀ a ∈ cs, a.isMp = false) → EntCs m1 mp cs (List.replicate cs.length .undef)
 | [], _ => trivial
 | a :: cs, h => ⟨h a (by simp), zjm m1 mp fun b hb => h b (by simp [hb])⟩
theorem zK9 {e : Nat} : ∀ (es : List (List D)) (tl : List AV), (∀ x ∈ es, x.length = e) → rowsOf e es.length (es.flatten.map .d ++ tl) = some es
 | [], _, _ => rfl
 | x :: es, tl, h => by
  have hx := h x (by simp)
  have e1 : ((x :: es).flatten.map AV.d ++ tl).take e = x.map .d := by
   rw [List.flatten_cons, List.map_append, List.append_assoc, List.take_append_of_le_length (by simp [hx])]
   exact List.take_of_length_le (by simp [hx])
  have e2 : ((x :: es).flatten.map AV.d ++ tl).drop e = es.flatten.map .d ++ tl := by
   rw [List.flatten_cons, List.map_append, List.append_assoc, List.drop_append_of_le_length (by simp [hx])]
   simp [hx]
  have e3 : ∀ y : List D, toDs [] 1 (y.map .d) = some y := by
   intro y
   induction y with
   | nil => rfl
   | cons a y ih => simp only [List.map_cons, toDs, ih, AV.toD]
  rw [List.length_cons, rowsOf, e1, e2, e3, zK9 es tl fun y hy => h y (by simp [hy])]
  simp only [hx, if_true]
end Go.Abs
end
section
namespace Go.Abs
open Go.RowKit
variable {T : Nat → Option Ty} {P : Program} {G : Nat → Option (List D)} {N : Nat} {E : AEnv} {st : St} {tmps : Array Value} {w : World} {S : Safe} {ρ : Rho}
variable {l base : Nat} {xs : List (List CV)} {J : Option (List (List CV)) → World → Safe → (Nat → Prop) → Prop} {o : Option (List (List CV))} {pn : List (Nat × Nat)} {z : World × Safe}
theorem yvu {o : Oper} {d esz : Nat} {xs' : List X} (h : trOp T o.dst o.op = some (.bsl d esz xs')) : ∃ t n parts eb zs, o.dst = some d ∧ o.op = .buildSlice t n parts ∧ T t = some (.slice esz eb zs) ∧ (parts.toList.map (·.1) = List.range n ∧ n * esz ≤ 2 ^ 24) ∧ trXs (parts.toList.map (·.2)) = some xs' := by
 have hd := zYe h
 simp only [DstIs] at hd
 generalize o.op = op at h
 cases op <;> simp only [trOp] at h
 case buildSlice t n parts =>
  obtain ⟨ty, hty, h⟩ := zza h
  split at h
  ·rename_i esz eb zs
   split at h
   ·rename_i hcond
    split at h
    ·obtain ⟨_, _, h⟩ := zza h
     obtain ⟨_, _, h⟩ := zza h
     cases h
    split at h
    ·obtain ⟨_, _, h⟩ := zza h
     obtain ⟨_, _, h⟩ := zza h
     cases h
    ·obtain ⟨d', hd', h⟩ := zza h
     obtain ⟨xs1, hx, h⟩ := zza h
     cases h
     exact ⟨t, n, parts, eb, zs, hd', rfl, hty, hcond, hx⟩
   ·cases h
  ·cases h
 case call cl =>
  exfalso
  obtain ⟨callee, args, argTypes⟩ := cl
  cases callee <;> simp only [trCall, Option.bind_eq_bind, Option.pure_def, reduceCtorEq] at h
  case value f =>
   split at h
   ·obtain ⟨_, _, h⟩ := zza h
    obtain ⟨_, _, h⟩ := zza h
    cases h
   obtain ⟨f1, hf, h⟩ := zza h
   obtain ⟨xs1, hxs, h⟩ := zza h
   cases h
  case builtin b =>
   by_cases hbc : b = .clear
   ·subst hbc
    simp only at h
    unfold trClear at h
    repeat' (first | (cases h; done) | (obtain ⟨_, _, h⟩ := zza h) | split at h)
   by_cases hbo : b = .copy
   ·subst hbo
    simp only at h
    unfold trCopy at h
    repeat' (first | (cases h; done) | (obtain ⟨_, _, h⟩ := zza h) | split at h)
   replace h : (o.dst >>= fun d => trBuiltin T d b args.toList argTypes.toList) = some (.bsl d esz xs') := by cases b <;> first | exact h | exact absurd rfl hbc | exact absurd rfl hbo
   obtain ⟨_, _, h⟩ := zza h
   unfold trBuiltin at h
   repeat' (first | (cases h; done) | (obtain ⟨_, _, h⟩ := zza h) | split at h)
 case binOp op t x y t' =>
  exfalso
  unfold trBin at h
  repeat' (first | (cases h; done) | (obtain ⟨_, _, h⟩ := zza h) | split at h)
 case unOp u t x =>
  exfalso
  unfold trUn at h
  repeat' (first | (cases h; done) | (obtain ⟨_, _, h⟩ := zza h) | split at h)
 case makeMap t rs =>
  exfalso
  cases rs with
  | some _ => cases h
  | none => repeat' (first | (cases h; done) | (obtain ⟨_, _, h⟩ := zza h) | split at h)
 case pick x y z =>
  exfalso
  obtain ⟨_, _, h⟩ := zza h
  unfold trPick at h
  repeat' (first | (cases h; done) | (obtain ⟨_, _, h⟩ := zza h) | split at h)
 case slice t x lo hi mx =>
  exfalso
  cases mx with
  | some m =>
   cases hi with
   | none => cases h
   | some hi =>
   obtain ⟨_, _, h⟩ := zza h
   cases lo
   all_goals
    repeat' (first | (cases h; done) | (obtain ⟨_, _, h⟩ := zza h) | split at h)
  | none =>
  obtain ⟨_, _, h⟩ := zza h
  cases lo <;> cases hi
  all_goals
   repeat' (first | (cases h; done) | (obtain ⟨_, _, h⟩ := zza h) | split at h)
 all_goals
  exfalso
  repeat' (first | (cases h; done) | (obtain ⟨_, _, _, _, e⟩ := zqZ h; cases e; done) | (obtain ⟨_, _, h⟩ := zza h) | split at h)
theorem yjn (hY : YB P G l xs base J) {op : Oper} {d esz : Nat} {xs' : List X} {es : List (List D)} (hT : ∀ t ty, T t = some ty → chkTy P t ty = true) (htr : trOp T op.dst op.op = some (.bsl d esz xs')) (hd : d < N) (h : YSim P G N pn z base J o st tmps w S ρ) (hg : gds st xs' = true) (hr : toElems esz (evs st xs') = some es) (hm : getM st.mem d = none) (h63 : es.length ≤ 9223372036854775807)
  {m : Nat} {K : Act → World → Prop} {Q : Exit → Act → World → Prop} (hK : ∀ tm' w' S' ρ', YSim P G N pn z base J o { (st.put none d (.vec d esz 0 es.length es.length)) with mem := (d, es.flatten.map .d) :: st.mem } tm' w' S' ρ' → K ⟨tm', []⟩ w') : op.wpIn (FR none) m P ⟨tmps, []⟩ w K Q := by
 obtain ⟨t, n, parts, eb, zs, hdst, hop, hty, ⟨hp, hsmall⟩, hx⟩ := yvu htr
 obtain ⟨X, Y, hs, hJ, hX, hz⟩ := h
 obtain ⟨cells', e, hrun, g3, hcs, helen, hall, q3⟩ := zQt (c := cy P G N pn w S X) hs (hT _ _ hty) hop hp hx hg hr hsmall (ds := [])
 obtain ⟨ρ', hle, hbx, hs'⟩ := Sim.newBox (c := cy P G N pn w S X) hs hm hd (RepL.toAs (ρ := ρ) g3) e
 refine ⟨fun _ _ => trivial, ?_⟩
 have hrun' : (execOp (Act.eval ⟨tmps, []⟩) op).run P w = .ok (.value (.slice (some ⟨w.heap.size, 0, none⟩) n n)) (w.alloc (.cells cells' e)) := hrun
 rw [Oper.semAt_eq _ _ _ (fun c hc => by rw [hop] at hc; cases hc), hrun', Oper.uponIn_value]
 simp only [Act.put, hdst]
 have h2 := YSim.put (ystep hY hJ hX hs' hz) hd (a := .vec d esz 0 es.length es.length) (v := .slice (some ⟨w.heap.size, 0, none⟩) n n) ⟨Nat.le_refl _, h63, _, hbx, by rw [helen]⟩
 exact hK _ _ _ _ h2
end Go.Abs
end
section
namespace Go.Abs
theorem ywq {E : AEnv} {Q : AX → St → Prop} {st : St} : awp E .skip Q st = Q .normal st := rfl
theorem yk1 {E : AEnv} {l : List (Option (Nat × Bool) × I)} {Q : AX → St → Prop} {st : St} : awp E (.reg l) Q st = aops E l (Q .normal) st := rfl
theorem yyE {E : AEnv} {p r : List (Option (Nat × Bool) × I)} {a b : Option (Nat × Bool) × I} {Q : AX → St → Prop} {st : St} : awp E (.regd2 p a b r) Q st = aopsN E p (fun s => aopsN E (a :: b :: r) (Q .normal) s ∧ aopsN E (b :: a :: r) (Q .normal) s) st := rfl
theorem ywp {E : AEnv} {F : List Nat} {l : List (Option (Nat × Bool) × I)} {Q : AX → St → Prop} {st : St} : awp E (.regn F l) Q st = aopsNF F E l (Q .normal) st := rfl
theorem yzm {F : List Nat} {E : AEnv} {K : St → Prop} {st : St} : aopsNF F E [] K st = K st := rfl
theorem zJy {F : List Nat} {E : AEnv} {g : Option (Nat × Bool)} {o : I} {os : List (Option (Nat × Bool) × I)} {K : St → Prop} {st : St} : aopsNF F E ((g, o) :: os) K st = (chkF F st o ∧ aopN E g o st (aopsNF F E os K)) := rfl
theorem ywo {E : AEnv} {l : List (Option (Nat × Bool) × I)} {Q : AX → St → Prop} {st : St} : awp E (.regd l) Q st = aopsN E l (Q .normal) st := rfl
theorem ywm {E : AEnv} {c : X} {a b : AC} {Q : AX → St → Prop} {st : St} : awp E (.cond c a b) Q st = match ev st c with
  | .d (.bool x) => gd st c = true ∧ (if x = true then awp E a Q st else awp E b Q st)
  | _ => False := by
 simp only [awp]
 generalize ev st c = v
 cases v with
 | d x =>
  cases x with
  | bool x => cases x <;> simp
  | _ => rfl
 | _ => rfl
theorem yyD {E : AEnv} {id : Nat} {c : AC} {Q : AX → St → Prop} {st : St} : awp E (.block id c) Q st = awp E c (blockK id Q) st := rfl
theorem ywn {E : AEnv} {id : Nat} {Q : AX → St → Prop} {st : St} : awp E (.exit id) Q st = Q (.exit id) st := rfl
theorem yk2 {E : AEnv} {Q : AX → St → Prop} {st : St} : awp E .ret Q st = Q .ret st := rfl
theorem ywj {E : AEnv} {K : St → Prop} {st : St} : aops E [] K st = K st := rfl
theorem yyy {E : AEnv} {g : Option (Nat × Bool)} {o : I} {os : List (Option (Nat × Bool) × I)} {K : St → Prop} {st : St} : aops E ((g, o) :: os) K st = aop E g o st (aops E os K) := rfl
theorem yyx {E : AEnv} {K : St → Prop} {st : St} : aopsN E [] K st = K st := rfl
theorem yzn {E : AEnv} {g : Option (Nat × Bool)} {o : I} {os : List (Option (Nat × Bool) × I)} {K : St → Prop} {st : St} : aopsN E ((g, o) :: os) K st = aopN E g o st (aopsN E os K) := rfl
theorem zQu {N : St → Prop} {Q : AX → St → Prop} {s : St} : seqK N Q .normal s = N s := rfl
theorem yx2 {N : St → Prop} {Q : AX → St → Prop} {s : St} {i : Nat} : seqK N Q (.exit i) s = Q (.exit i) s := rfl
theorem ykr {N : St → Prop} {Q : AX → St → Prop} {s : St} : seqK N Q .ret s = Q .ret s := rfl
theorem zKM {id : Nat} {Q : AX → St → Prop} {s : St} : blockK id Q .normal s = Q .normal s := rfl
theorem zJC {id i : Nat} {Q : AX → St → Prop} {s : St} : blockK id Q (.exit i) s = if i = id then Q .normal s else Q (.exit i) s := rfl
theorem yzo {id : Nat} {Q : AX → St → Prop} {s : St} : blockK id Q .ret s = Q .ret s := rfl
theorem zQq {rs : List R} {r : CV} {st : St} : retK rs r .normal st = retOk st r rs := rfl
theorem ykp {rs : List R} {r : CV} {st : St} : retK rs r .ret st = retOk st r rs := rfl
theorem yzu (xs : List D) : cells1 (xs.map AV.d) = true := by
 induction xs with
 | nil => rfl
 | cons x xs ih => exact ih
theorem yku (m : Mem) (n : Nat) (xs : List D) : toDs m n (xs.map AV.d) = some xs := by
 induction xs with
 | nil => rfl
 | cons x xs ih => cases n <;> simp [toDs, AV.toD, ih]
theorem yyJ {v : Bool} {g : Option Bool} {d : Nat} {K : St → Prop} {st : St} {as : List AV} {x : D} : callK v g (some d) K st as (.one x) = K (st.put g d (.d x)) := rfl
theorem yyI {v : Bool} {g : Option Bool} {d : Nat} {K : St → Prop} {st : St} {as : List AV} {x : List D} : callK v g (some d) K st as (.agg x) = K (st.put g d (.agg (x.map .d))) := rfl
theorem yyL {v : Bool} {g : Option Bool} {d : Nat} {K : St → Prop} {st : St} {as : List AV} {x : List CV} : callK v g (some d) K st as (.tup x) = K (st.put g d (.tup (CV.toAV0s x))) := rfl
theorem yyK {v : Bool} {g : Option Bool} {d : Nat} {K : St → Prop} {st : St} {as : List AV} {a : Option Nat} {sz : Nat} {es : List (List D)} : callK v g (some d) K st as (.own a sz es) = ((g = none ∧ getT st.tk d = none ∧ argOwn st.tk as sz a) ∧ K { (st.put none d (.own d sz es)) with tk := (d, true) :: tkUse (ownTok as a) st.tk }) := rfl
theorem zJG {v : Bool} {g : Option Bool} {K : St → Prop} {st : St} {as : List AV} {x : D} : callK v g none K st as (.one x) = K st := rfl
theorem zJH {v : Bool} {g : Option Bool} {K : St → Prop} {st : St} {as : List AV} {x : List D} : callK v g none K st as (.agg x) = K st := rfl
theorem zJI {v : Bool} {g : Option Bool} {K : St → Prop} {st : St} {as : List AV} {x : List CV} : callK v g none K st as (.tup x) = K st := rfl
theorem zJi {rs : List R} {sz : Nat} {es : List (List D)} {st : St} : retKO rs sz es .normal st = retOwn st sz es rs := rfl
theorem yxU {rs : List R} {sz : Nat} {es : List (List D)} {st : St} : retKO rs sz es .ret st = retOwn st sz es rs := rfl
theorem zQI {v : Bool} {g : Option Bool} {d : Nat} {K : St → Prop} {st : St} {as : List AV} {sz : Nat} {es : List (List D)} : callK v g (some d) K st as (.vc sz es) = ((v = true ∧ g = none ∧ getM st.mem d = none) ∧ (es = [] → K (st.put none d (.d (.lst [])))) ∧ (es ≠ [] → ∀ cap, es.length ≤ cap → cap ≤ 9223372036854775807 →
  K { (st.put none d (.vec d sz 0 es.length cap)) with mem := (d, es.flatten.map .d ++ List.replicate (cap * sz - es.length * sz) .undef) :: st.mem })) := rfl
theorem ywF (m : Mem) (x : D) : AV.elemsM m (.d x) = AV.elems (.d x) := rfl
theorem zJP (m : Mem) (es : List (List D)) : AV.elemsM m (.full es) = some es := rfl
theorem yzy (m : Mem) (t sz : Nat) (es : List (List D)) : AV.elemsM m (.own t sz es) = some es := rfl
theorem yvd (x : D) : AV.isVec (.d x) = false := rfl
theorem yzM (es : List (List D)) : AV.isVec (.full es) = false := rfl
theorem yxl (t sz : Nat) (es : List (List D)) : AV.isVec (.own t sz es) = false := rfl
theorem yxm (s e o n c : Nat) : AV.isVec (.vec s e o n c) = true := rfl
attribute [go_sem] zQI ywF zJP yzy yvd yzM yxl yxm
theorem zzb {v : Bool} {E : AEnv} {f : FuncId} {args : List CV} {r : CV} {g : Option Bool} {d : Option Nat} {K : St → Prop} {st : St} {as : List AV} (h : E.C f args r) (hk : callK v g d K st as r) : ∃ r, E.C f args r ∧ callK v g d K st as r := ⟨r, h, hk⟩
theorem yyF {E : AEnv} {c : AC} {Q : AX → St → Prop} {st : St} : awp E (.scope c) Q st = awp E c Q st := rfl
theorem yk0 {E : AEnv} {Q : AX → St → Prop} {st : St} : awp E .lab Q st = Q .normal st := rfl
theorem ykZ {E : AEnv} {a b : AC} {Q : AX → St → Prop} {st : St} : awp E (.alt a b) Q st = (awp E a Q st ∧ awp E b Q st) := rfl
theorem yy8 (t : Nat) (xs : List D) (l : List D) : AV.fills t xs (l.map .d) = l.map .d := by
 induction l with
 | nil => rfl
 | cons x l ih => simp only [List.map_cons, AV.fills, AV.fill, ih]
theorem yvS (t : Nat) (xs : List D) (x : D) : AV.fill t xs (.d x) = .d x := by simp only [AV.fill]
theorem yy6 (t : Nat) (xs : List D) (x : List (List D)) : AV.fill t xs (.full x) = .full x := by simp only [AV.fill]
theorem ywO (t : Nat) (xs : List D) (s o : Nat) : AV.fill t xs (.ptr s o) = .ptr s o := by simp only [AV.fill]
theorem yzE (t : Nat) (xs : List D) : AV.fill t xs .undef = .undef := by simp only [AV.fill]
theorem yy7 (t : Nat) (xs : List D) (s : Nat) : AV.fill t xs (.mref s) = .mref s := by simp only [AV.fill]
theorem ywL (t : Nat) (xs : List D) (k e : Nat) (l : List (D × MV)) : AV.fill t xs (.mp k e l) = .mp k e l := by simp only [AV.fill]
theorem ywQ (t : Nat) (xs : List D) (s e o n c : Nat) : AV.fill t xs (.vec s e o n c) = .vec s e o n c := by simp only [AV.fill]
theorem ywR (t : Nat) (xs : List D) (s : Nat) : AV.fill t xs (.zsl s) = .zsl s := by simp only [AV.fill]
theorem ywM (t : Nat) (xs : List D) (u sz : Nat) (es : List (List D)) : AV.fill t xs (.own u sz es) = if u = t then .undef else .own u sz es := by simp only [AV.fill]
theorem ywN (t : Nat) (xs : List D) (u sz : Nat) (es : List (List D)) : AV.fill t xs (.pnd u sz es) = if u = t then .own u sz (es ++ [xs]) else .pnd u sz es := by simp only [AV.fill]
theorem yy5 (t : Nat) (xs : List D) (u sz : Nat) : AV.fill t xs (.eptr u sz) = if u = t then .undef else .eptr u sz := by simp only [AV.fill]
theorem ywJ (t : Nat) (xs : List D) (cs : List AV) : AV.fill t xs (.agg cs) = .agg (AV.fills t xs cs) := by simp only [AV.fill]
theorem ywP (t : Nat) (xs : List D) (cs : List AV) : AV.fill t xs (.tup cs) = .tup (AV.fills t xs cs) := by simp only [AV.fill]
theorem ywK (t : Nat) (xs : List D) (f : FuncId) (cs : List AV) : AV.fill t xs (.clo f cs) = .clo f (AV.fills t xs cs) := by simp only [AV.fill]
theorem yy4 (t : Nat) (xs : List D) (g : Bool) (a : AV) : AV.fill t xs (.cond g a) = .cond g (AV.fill t xs a) := by simp only [AV.fill]
attribute [go_sem] yyF yk0 ykZ yy8 yvS yy6 ywO yzE yy7 ywL ywQ ywR ywM ywN yy5 ywJ ywP ywK yy4 AV.fills fillSlots fillMem St.fill AV.isZsl AV.isEptr
theorem zXs {E : AEnv} {f : FuncId} {caps : List D} {cvs : List CV} {r : CV} {g : Option Bool} {d : Option Nat} {gs : Bool} {K : St → Prop} {st : St} {as : List AV} {sk : Prop} (hc : toCVs st.mem 3 as = some cvs) (hf : r.flat = true) (hg : onG g (gs = true)) (h : E.C f (cvs ++ caps.map .one) r) (hk : callK false g d K st as r) : callW E g d f caps gs as K st sk :=
 .inl (.inl (by rw [hc]; exact .inl ⟨r, by cases g with | none => exact ⟨hg, hf, h⟩ | some b => exact fun hb => ⟨hg hb, hf, h⟩, hk⟩))
theorem zQJ {E : AEnv} {f : FuncId} {caps : List D} {d : Option Nat} {gs : Bool} {K : St → Prop} {st : St} {as : List AV} {sk : Prop} (x : BArgs) (h : E.C f [] (.bx x.as0 x.m0 (tkOf x.τ) x.r x.m1 (tkOf x.τ1))) (hr : x.r.isOwn = false) (hg : gs = true) (ho : okB st (as ++ caps.map .d) x) (hk : K (afterB st d x)) : callW E none d f caps gs as K st sk :=
 .inl (.inr ⟨x, ⟨rfl, hg, hr, ho, h⟩, hk⟩)
theorem zZD {E : AEnv} {f : FuncId} {caps : List AV} {d : Option Nat} {gs : Bool} {K : St → Prop} {st : St} {as : List AV} {sk : Prop} (x : BArgs) (h : E.C f [] (.bx x.as0 x.m0 (tkOf x.τ) x.r x.m1 (tkOf x.τ1))) (hr : x.r.isOwn = false) (hg : gs = true) (ho : okB st (as ++ caps) x) (hk : K (afterB st d x)) : callC E none d f caps gs as K st sk :=
 .inl ⟨x, ⟨rfl, hg, hr, ho, h⟩, hk⟩
theorem zW2 {E : AEnv} {f : FuncId} {caps : List D} {g : Option Bool} {d : Option Nat} {gs : Bool} {K : St → Prop} {st : St} {as : List AV} {sk : Prop} (h : sk) : callW E g d f caps gs as K st sk := .inr h
theorem yyH (l : List D) : AV.boxeds (l.map .d) = false := by
 induction l with
 | nil => rfl
 | cons x l ih => rw [List.map_cons, AV.boxeds, AV.boxed, ih]; rfl
attribute [go_sem] mkC dsOf St.noBox dropB AV.boxed AV.boxeds yyH idxA lfromA ltoA lmaxA vecTo
theorem zJx (σ τ : TMap) (l : List D) : Matches σ τ (l.map .d) (l.map .d) = True := by
 induction l with
 | nil => rfl
 | cons x l ih => simp only [List.map_cons, Matches, Match1, Match0, AV.toD, true_and, ih]
theorem yw6 (σ τ : TMap) (l : List D) : (l.map AV.d).map (AV.ren1 σ τ) = l.map .d := by rw [List.map_map]; rfl
theorem yyq (l : List D) : (l.map AV.d).all keep1 = true := by rw [List.all_map]; exact List.all_eq_true.2 fun _ _ => rfl
attribute [go_sem] zJx yw6 yyq
theorem yyA {a p : Prop} : appG none a p = p := rfl
theorem ykV {a p : Prop} : appG (some true) a p = p := rfl
theorem ywk {a p : Prop} : appG (some false) a p = a := rfl
theorem yke : onB none = true := rfl
theorem ykf {b : Bool} : onB (some b) = b := by cases b <;> rfl
attribute [go_sem] yyA ykV ywk yke ykf
theorem mapM_nil' {α β : Type} (f : α → Option β) : [].mapM f = some [] := rfl
theorem mapM_cons' {α β : Type} (f : α → Option β) (a : α) (l : List α) : (a :: l).mapM f = match f a with | some b => (match l.mapM f with | some bs => some (b :: bs) | none => none) | none => none := by
 simp only [List.mapM_cons, Option.bind_eq_bind, Option.pure_def]
 cases f a with
 | none => rfl
 | some b => cases l.mapM f <;> rfl
attribute [go_sem] mapM_nil' mapM_cons'
theorem zz2 {v : Bool} {E : AEnv} {f : FuncId} {args : List CV} {r : CV} {b : Bool} {g : Option Bool} {d : Option Nat} {K : St → Prop} {st : St} {as : List AV} (h : E.C f args r) (hk : callK v g d K st as r) : ∃ r, (b = true → b = true ∧ E.C f args r) ∧ callK v g d K st as r := ⟨r, fun hb => ⟨hb, h⟩, hk⟩
attribute [go_sem] ywp yzm zJy chkF ywq yk1 ywo yyE ywm yyD ywn yk2 yyJ yyI yyL yyK zJG zJH zJI zJi yxU ownTok tkUse argOwn retOwn initO
theorem yk3 {E : AEnv} {g : X} {ps wl : List Nat} {a b : AC} {Q : AX → St → Prop} {st : St} : awp E (.rng g ps wl a b) Q st = match ev st g with
  | .d (.clo f caps) => gd st g = true ∧ ∃ xs, E.It f caps xs ∧ rngL (fun Q' => awp E a (seqK (awp E b Q') noK)) ps wl xs Q st
  | _ => False := rfl
theorem zQr {wl : List Nat} {N : St → Prop} {Q : AX → St → Prop} {s : St} : rngK wl N Q .normal s = N (s.dropW wl) := rfl
theorem yxV {wl : List Nat} {N : St → Prop} {Q : AX → St → Prop} {s : St} {i : Nat} : rngK wl N Q (.exit i) s = Q (.exit i) (s.dropW wl) := rfl
theorem ykq {wl : List Nat} {N : St → Prop} {Q : AX → St → Prop} {s : St} : rngK wl N Q .ret s = Q .ret (s.dropW wl) := rfl
theorem ykO {E : AEnv} {f : FuncId} {caps : List D} {xs : List (List CV)} {B : (AX → St → Prop) → St → Prop} {ps wl : List Nat} {Q : AX → St → Prop} {st : St} (h : E.It f caps xs) (Inv : List (List CV) → Prop) (Sx : List (List CV) → St) (h0 : Ent st (Sx [])) (hi : Inv [])
  (hr : ∀ pre x rest, xs = pre ++ x :: rest → Inv pre → x.length = ps.length ∧ B (rngK wl (fun s => Ent s (Sx (pre ++ [x])) ∧ Inv (pre ++ [x])) Q) { Sx pre with slots := setPs ps x (Sx pre).slots }) (hq : Inv xs → Q .normal (Sx xs)) :
  ∃ xs, E.It f caps xs ∧ rngL B ps wl xs Q st := ⟨xs, h, Inv, Sx, h0, hi, hr, hq⟩
attribute [go_sem] yk3 zQr yxV ykq setPs inN dropS St.dropW
theorem yk4 {E : AEnv} {a b : AC} {Q : AX → St → Prop} {st : St} : awp E (.seq a b) Q st = awp E a (seqK (awp E b Q) Q) st := rfl
theorem yxu (a b : List UInt8) : likeD (.str a) (.str b) = true := rfl
theorem yzP (a b : Bool) : likeD (.bool a) (.bool b) = true := rfl
theorem yxt (a b : Int) : likeD (.int .i64 a) (.int .i64 b) = true := rfl
theorem yxq (a b : List UInt8) : keyEq (.str a) (.str b) = (a == b) := rfl
theorem yzN (a b : Bool) : keyEq (.bool a) (.bool b) = (a == b) := rfl
attribute [go_sem] eqDs likeDs yxq yzN
attribute [go_sem] yxu yzP yxt flatD plainD AV.isMp
attribute [go_sem] yk4 guardOf onG getS getM getT ev ev0 gd AV.strip AV.grd gds evs evParts gdParts opv dstOf St.put AV.cells AV.elems rdMem asOne lenOf binA aopG aopW skipG skipK wrOf aop aopN ywj yyy yyx yzn
 zQu yx2 ykr zKM zJC yzo zQq ykp yzu yku List.length_map fillA AV.solid cells1 toElems toDs AV.toD AV.toCV toCVs tkKill CV.toAV0 CV.toAV0s initSlots retOk resCV resCVs resAV
 EntSlots EntMem EntV EntC EntCs AV.plain AV.plains tkOf mpOk getTM convs conv1
 List.map_cons List.map_nil List.drop_zero List.drop_succ_cons List.drop_nil List.take_zero List.take_succ_cons List.take_nil List.length_cons List.length_nil List.headD_cons List.take_of_length_le Nat.le_refl List.cons_append List.nil_append List.append_nil
 List.getD_cons_zero List.getD_cons_succ List.set_cons_zero List.set_cons_succ List.getElem?_cons_zero List.getElem?_cons_succ
 reduceIte true_and and_true Bool.true_and Bool.and_true Bool.and_self Int.toNat_natCast Option.some.injEq forall_const true_implies
theorem yyj (m1 : Mem) (mp : TMap) (l : List D) : EntCs m1 mp (l.map .d) (l.map .d) = True := by
 induction l with
 | nil => rfl
 | cons x l ih => simp [EntCs, EntC, ih]
attribute [go_sem] yyj
attribute [go_sem] Bool.or_self Bool.or_true Bool.true_or Bool.or_false Bool.false_or Bool.not_true Bool.not_false Bool.and_false Bool.false_and imp_self implies_true CV.one.injEq CV.tup.injEq CV.agg.injEq D.bool.injEq D.int.injEq D.str.injEq List.cons.injEq false_implies Int.natCast_nonneg Int.lt_irrefl Int.le_refl decide_true decide_false
theorem zzc {st st1 : St} (h : st1.tk = [] ∧ EntSlots st st1.mem [] st1.slots ∧ EntMem st st1.mem [] st1.mem) : Ent st st1 := ⟨[], [], _, rfl, h.1, trivial, h.2.1, h.2.2⟩
theorem yxv {E : AEnv} {c : AC} {Q : AX → St → Prop} {α : Type} (S : α → St) (I : α → Prop) (μ : α → Nat) (a0 : α) {st : St} (h0 : Ent st (S a0)) (hi : I a0)
  (hstep : ∀ a, I a → awp E c (seqK (fun s => ∃ a', Ent s (S a') ∧ I a' ∧ μ a' < μ a) Q) (S a)) : awp E (.loop c) Q st := by
 have key : ∀ (n : Nat) (a : α) {st : St}, μ a < n → Ent st (S a) → I a → awp E (.loop c) Q st := by
  intro n
  induction n with
  | zero => intro a st h; omega
  | succ n ih =>
   intro a st hn h0 hi
   refine zXF h0 (zXq c (zk7 (fun s h => ?_) fun _ _ h => h) (hstep a hi))
   obtain ⟨a', h1, h2, h3⟩ := h
   exact ih a' (by omega) h1 h2
 exact key _ a0 (Nat.lt_succ_self _) h0 hi
theorem zzo {st st1 : St} (mp : TMap) (h : st1.tk = tkOf mp ∧ mpOk st mp [] ∧ EntSlots st st1.mem mp st1.slots ∧ EntMem st st1.mem mp st1.mem) : Ent st st1 := ⟨[], mp, st, rfl, h⟩
theorem zwJ {st st1 : St} (k t sz : Nat) (es : List (List D)) (mp : TMap) (h1 : getS st.slots k = .full es) (h2 : ∀ e ∈ es, e.length = sz) (h3 : getT st.tk t = none)
  (h : Ent0 mp { st with slots := (k, .own t sz es) :: st.slots, tk := (t, true) :: st.tk } st1) : Ent st st1 := ⟨[(.s k, t, sz)], mp, _, ⟨_, ⟨es, h1, h2, h3, rfl⟩, rfl⟩, h⟩
attribute [go_sem_proc] Nat.reduceEqDiff reduceCtorEq Nat.reduceAdd Nat.reduceLeDiff Nat.reduceMul Nat.reduceLT
attribute [go_sem] Bool.false_eq_true Bool.true_eq_false
theorem oS {α : Type} {a : α} : (some a).isSome = true := rfl
theorem lA {α : Type} {as bs : List α} : (as ++ bs).length = as.length + bs.length := List.length_append
theorem lM {α β : Type} {as : List α} (f : α → β) : (List.map f as).length = as.length := List.length_map f
theorem lC {α : Type} {a : α} {as : List α} : (a :: as).length = as.length + 1 := rfl
theorem lN {α : Type} : ([] : List α).length = 0 := rfl
theorem zA (n : Nat) : 0 + n = n := Nat.zero_add n
theorem mA {α β : Type} {f : α → β} {l m : List α} : List.map f (l ++ m) = List.map f l ++ List.map f m := List.map_append
theorem mC {α β : Type} {f : α → β} {a : α} {l : List α} : List.map f (a :: l) = f a :: List.map f l := rfl
theorem mN {α β : Type} {f : α → β} : List.map f [] = [] := rfl
theorem nZ : ((0 : Nat) : Int) = 0 := rfl
theorem cN {α : Type} {a : α} [BEq α] : ([] : List α).contains a = false := rfl
theorem bl {n m : Nat} (h : n.ble m = true) : n ≤ m := Nat.le_of_ble_eq_true h
end Go.Abs
end
section
namespace Go.Abs
inductive Pred where
 | mk (op : Int) (name : List UInt8) (n : Int) (kids : List Pred)
namespace Pred
def op : Pred → Int | .mk o _ _ _ => o
def name : Pred → List UInt8 | .mk _ s _ _ => s
def n : Pred → Int | .mk _ _ n _ => n
def kids : Pred → List Pred | .mk _ _ _ k => k
mutual
def cells : Pred → List D
 | .mk o s n ks => [.int .i64 o, .str s, .int .i64 n, .lst (cellss ks)]
def cellss : List Pred → List (List D)
 | [] => []
 | k :: ks => cells k :: cellss ks
end
theorem yyP (ks : List Pred) : cellss ks = ks.map cells := by
 induction ks with
 | nil => simp [cellss]
 | cons k ks ih => simp [cellss, ih]
theorem zzd (p : Pred) : cells p = [.int .i64 p.op, .str p.name, .int .i64 p.n, .lst (p.kids.map cells)] := by
 cases p; simp [cells, op, name, n, kids, yyP]
theorem zzu (p : Pred) : (cells p).length = 4 := by rw [zzd]; rfl
theorem yzv (p : Pred) : (cells p).take 4 = cells p := List.take_of_length_le (by rw [zzu]; omega)
theorem ind {P : Pred → Prop} (h : ∀ o s n ks, (∀ k ∈ ks, P k) → P (.mk o s n ks)) : ∀ p, P p :=
 fun p => Pred.rec (motive_1 := P) (motive_2 := fun ks => ∀ k ∈ ks, P k) h (fun k hk => by cases hk) (fun k ks hk hks x hx => by
  rcases List.mem_cons.1 hx with rfl | hx
  ·exact hk
  ·exact hks x hx) p
attribute [go_sem] zzu
theorem lens (l : List Pred) : ∀ e ∈ l.map cells, e.length = 4 := by
 intro e he; obtain ⟨p, _, rfl⟩ := List.mem_map.1 he; exact zzu p
theorem zzB (l : List Pred) : (∀ e ∈ l.map cells, e.length = 4) = True := eq_true (lens l)
attribute [go_sem] zzB yzv
end Pred
theorem zy7 {α β : Type} (f : α → β) (a : List α) (x : α) (b : List α) (d : β) : ((a ++ x :: b).map f).getD a.length d = f x := by simp
theorem i64_in (n : Int) (h : -9223372036854775808 ≤ n ∧ n ≤ 9223372036854775807) : IntKind.i64.wrap n = n := by
 unfold IntKind.wrap
 simp only [IntKind.signed, IntKind.bits, Bool.true_and, ge_iff_le, decide_eq_true_eq]
 by_cases h' : (2 : Int) ^ (64 - 1) ≤ n % 2 ^ 64
 ·rw [if_pos h']; omega
 ·rw [if_neg h']; omega
theorem zze {n : Nat} (h : (n : Int) + 1 ≤ 9223372036854775807) : IntKind.i64.wrap ((n : Int) + 1) = ((n + 1 : Nat) : Int) := by
 rw [i64_in _ (by omega)]; omega
theorem zzi {α : Type} {l a b : List α} {x : α} (h : l = a ++ x :: b) : (a.length : Int) < l.length := by rw [h]; simp; omega
theorem zkV {α : Type} {l : List α} (a : List α) (x : α) (b : List α) (d : α) (h : l = a ++ x :: b) : l.getD a.length d = x := by subst h; simp
end Go.Abs
end

/-
  CONTRACTS: what the functions answer, as plain Lean functions, each by evaluation at the abstract machine.
-/
import Derived.Lib.ItoaLen
import Derived.Test.YtmlihiihcbmaoaaGreatDoorCon1
set_option linter.unusedSimpArgs false
set_option linter.unusedVariables false
set_option linter.unusedSectionVars false
set_option maxRecDepth 100000
section
namespace Go.Abs
open Go.RowKit
variable {T : Nat → Option Ty} {P : Program} {G : Nat → Option (List D)} {E : AEnv} {l base : Nat} {xs : List (List CV)} {J : Option (List (List CV)) → World → Safe → (Nat → Prop) → Prop} {o : Option (List (List CV))} {pn : List (Nat × Nat)} {z : World × Safe}
theorem yjp (hY : YB P G l xs base J) {N : Nat} {st : St} {tm : Array Value} {w : World} {S : Safe} {ρ : Rho} (h : YSim P G N pn z base J o st tm w S ρ) {σ : TMap} {m0 : Mem} (hm : MatchMem st [] σ σ m0) (hs1 : noTwice (σ.map (·.1)) = true) (hs2 : noTwice (σ.map (·.2)) = true) :
  ∃ pn', (∀ p ∈ pn', 1000 ≤ p.1) ∧ (∀ s b, (rho0 ρ σ []).box s = some b → (s, b) ∈ pn') ∧ YSim P G 0 pn' z base J o ⟨[], m0, []⟩ #[] w S (rho0 ρ σ []) := by
 obtain ⟨X, Y, hs, hJ, hX, hz⟩ := h
 have hh := Sim.handB (c := cy P G N pn w S X) hs hm (τ := []) trivial hs1 hs2
 obtain ⟨_, _, g3⟩ := hm.get
 refine ⟨_, fun p hp => ?_, fun s b hb => ?_, blocksOf ρ σ [], Y, { size := hh.size, slots := hh.slots, mem := hh.mem, inj := hh.inj, boxNew := hh.boxNew, mps := hh.mps, tok := hh.tok, tokNew := hh.tokNew, below := hh.below, old := hh.old, new := hh.new, live := hh.live, glob := hh.glob, fx := hh.fx, obs := hh.obs, keeps := fun p hp => (by cases hp; exact Keeps.refl _ _), ex := hh.ex, pins := ⟨hh.pins.1, fun p hp => (by cases hp)⟩ }, hJ, fun b hb => ?_, hz⟩
 ·obtain ⟨q, hq, e⟩ := List.mem_filterMap.1 hp
  rw [Option.map_eq_some_iff] at e
  obtain ⟨b0, _, rfl⟩ := e
  exact (g3 q hq).1
 ·simp only [rho0, Option.bind_eq_some_iff] at hb
  obtain ⟨u, e1, e2⟩ := hb
  exact List.mem_filterMap.2 ⟨(s, u), zyU e1, by simp only [e2, Option.map_some]⟩
 ·have own : ∀ b, (cy P G N pn w S X).Own b → b < w.heap.size → base ≤ b ∧ b < w.heap.size ∧ ¬ Y b := fun b ho hl => by
    rcases ho with ho | ⟨ho, _⟩
    ·have : w.heap.size ≤ b := ho
     omega
    ·exact hX b ho
  rcases zxZ (τ := []) rfl hb with ⟨s, s', _, e⟩ | ⟨s, s', _, e⟩ | ⟨t, u, a, n, cap, sz, e1, _⟩
  ·cases hm' : getM st.mem s' with
   | none => rw [hs.boxNew s' hm'] at e; cases e
   | some cs =>
    obtain ⟨b', vs, ev, k1, k2, k3, _⟩ := hs.mem s' cs hm' (hs.noMp e hm')
    rw [e] at k1; cases k1
    exact own b k2 (Array.getElem?_eq_some_iff.1 k3).1
  ·cases hm' : getM st.mem s' with
   | none => rw [hs.mps.new s' hm'] at e; cases e
   | some cs =>
    cases hmp : isMp cs with
    | false =>
     obtain ⟨b', vs, ev, k1, _⟩ := hs.mem s' cs hm' hmp
     rw [hs.mps.apart s' b' k1] at e; cases e
    | true =>
     obtain ⟨k, e', kvs, rfl⟩ := zyi.1 hmp
     obtain ⟨b', k1, _, k3, k4⟩ := hs.mps.at' s' k e' kvs hm'
     rw [e] at k1; cases k1
     exact own b k3 k4.lt
  ·cases e1
theorem used0 (n : Nat) : (usedOf n [0]).map (fun b => AV.d (.bool b)) = (List.replicate n [AV.d (.bool false)]).flatten := by
 have : usedOf n [0] = List.replicate n false := by
  apply List.ext_getElem?
  intro i
  simp only [usedOf, List.getElem?_map, List.getElem?_replicate]
  by_cases hi : i < n
  ·simp [hi]
  ·simp [hi]
 rw [this]
 induction n with
 | zero => rfl
 | succ n ih => simp [List.replicate_succ]
def chCaps0 (q : SQual) (h : SHole) : List AV := [.d (.ref q.cells), .ptr 3 0, .ptr 5 0, .d (.ref h.cells), .ptr 4 0, .ptr 6 0]
theorem zxt {st : St} {τ σ0 σ : TMap} {m : Mem} {s0 s : Nat} {cs cs0 : List AV} (h1 : 1000 ≤ s0) (hm : getM st.mem s = some cs) (hmt : Matches σ0 τ cs cs0) (hnm : isMp cs0 = false) (hr : MatchMem st τ σ0 σ m) : MatchMem st τ σ0 ((s0, s) :: σ) ((s0, cs0) :: m) := by
 refine ⟨⟨rfl, h1, ?_⟩, hr⟩
 simp only [hm]
 split
 ·cases hnm
 ·exact hmt
theorem ywb (us : List Bool) : isMp (us.map fun b => AV.d (.bool b)) = false := by
 cases hu : isMp (us.map fun b => AV.d (.bool b)) with
 | false => rfl
 | true =>
  obtain ⟨k, e, kvs, h2⟩ := zyi.1 hu
  have hm : AV.mp k e kvs ∈ us.map fun b => AV.d (.bool b) := by rw [h2]; simp
  obtain ⟨_, _, e⟩ := List.mem_map.1 hm
  cases e
theorem zVs (hG : E.G = G) (hC : ∀ f args r, E.C f args r → Ev P G f args r) (hT : ∀ t ty, T t = some ty → chkTy P t ty = true) (hm : P.follows .mixedOrders = true) (hcl : CloneLaw E) {fn1 : Func} (hf1 : P.funcs[zzh]? = some fn1) (htr1 : trFn T fn1 = some zyg)
  {fn : Func} (hf : P.funcs[zzH]? = some fn) (htr : trFn T fn = some zy4) {q : SQual} {h : SHole} (hsm : q.vars.length < 1048576) (hpl : h.params.length ≤ 1048576) (hp1 : 1 ≤ h.params.length) (hq1 : 1 ≤ q.vars.length) :
  ItOk P G zzH [.ref h.cells, .ref q.cells] (chY h.params (chI h.params (q.vars.drop 1) [0])) := by
 obtain ⟨hname, cd, hcd, hac, hrs, hN⟩ := zXu htr
 have hN : fn.ntmps = 21 := hN
 refine ⟨⟨fn, hf, hname, by simp [hcd]⟩, ?_⟩
 intro l w S cs J Jx Y0 hlive hglob hcs hgrow hgrowx hlk hlx hyield hJ0
 obtain ⟨JO, hJO⟩ : ∃ JO : Option (List (List CV)) → World → Safe → (Nat → Prop) → Prop, JO = fun o => match o with | some p => J p | none => Jx := ⟨_, rfl⟩
 have hY : YB P G l (chY h.params (chI h.params (q.vars.drop 1) [0])) w.heap.size JO := by
  subst hJO
  refine ⟨fun o W S1 Y W' S2 hj hg => ?_, fun o W S1 Y hj => ?_, hglob.2.1, fun pre x rest W S1 Y vs hx hj hr => ?_⟩
  ·cases o with
   | some p => exact hgrow _ _ _ _ _ _ hj hg
   | none => exact hgrowx _ _ _ _ _ hj hg
  ·cases o with
   | some p => obtain ⟨h1, _, h3, h4, h5⟩ := hlk _ _ _ _ hj; exact ⟨h1, h3, h4, h5⟩
   | none => exact hlx _ _ _ hj
  ·obtain ⟨fn', tm, asg, bd, h1, h2⟩ := hyield pre x rest W S1 Y vs hx hj hr
   refine ⟨fn', tm, asg, bd, h1, h2.mono ?_⟩
   rintro e W' (⟨rfl, S2, Y2, hJ2, hf2⟩ | ⟨rfl, S2, Y2, hJ2, hf2⟩)
   ·exact ⟨true, S2, Y2, rfl, hJ2, hf2⟩
   ·exact ⟨false, S2, Y2, rfl, hJ2, hf2⟩
 refine callsIn_wide.1 (callsIn_of_wp_marks (n := 0) hf hcd trivial ?_)
 have hargs : RepCL w S [.one (.yl l), .one (.ref h.cells), .one (.ref q.cells)] ((#[.func (.yield l) #[] #[]] : Array Value) ++ cs.toArray).toList := by
  obtain ⟨v1, r1, e1, e2, v2, r2, e3, e4, e5⟩ := hcs
  simp only [RepL] at e5
  subst e5 e3 e1
  exact ⟨_, _, rfl, rfl, _, _, rfl, e2, _, _, rfl, e4, rfl⟩
 have hs0 := zqG (P := P) (G := G) (fn := fn) (by rw [hN]; exact bl rfl) hlive hglob hargs
 have hy0 : YSim P G fn.ntmps [] (w, S) w.heap.size JO (some []) ⟨initSlots 0 [.one (.yl l), .one (.ref h.cells), .one (.ref q.cells)], [], []⟩ _ w S _ :=
  ⟨[], Y0, { size := hs0.size, slots := hs0.slots, mem := hs0.mem, inj := hs0.inj, boxNew := hs0.boxNew, mps := hs0.mps, tok := hs0.tok, tokNew := hs0.tokNew, below := hs0.below, old := hs0.old, new := hs0.new, live := hs0.live, glob := hs0.glob, fx := hs0.fx, obs := hs0.obs, keeps := fun p hp => (by cases hp; exact Keeps.refl _ _), ex := hs0.ex, pins := Pins.nil rfl rfl }, by rw [hJO]; exact hJ0, fun b hb => (by cases hb), Keeps.refl _ _⟩
 obtain ⟨x0, y0, rfl, h0, hac1⟩ := zzV hac
 obtain ⟨x1, y1, rfl, h1, hac2⟩ := zzV hac1
 obtain ⟨x2, y2, rfl, h2, hac3⟩ := zzV hac2
 obtain ⟨x3, y3, rfl, h3, hac4⟩ := zzV hac3
 obtain ⟨x4, y4, rfl, h4, h5⟩ := zzV hac4
 refine wpIn_seq (yregE hY hG hC hT hm h0 (zy5 h0) hy0 (fun z => z = ⟨[(1, .d (.ref h.cells)), (2, .d (.ref q.cells)), (3, .ptr 3 0)], [(3, [.d (.yl l)])], []⟩) ?_ ?_)
 ·simp only [go_sem]
  refine ⟨_, zzc ?_, rfl⟩
  simp only [go_sem, oS, Bool.and_self]
 rintro _ tm1 w1 S1 ρ1 hs1 rfl
 refine wpIn_seq (yregE hY hG hC hT hm h1 (zy5 h1) hs1 (fun z => z = ⟨[(1, .d (.ref h.cells)), (2, .d (.ref q.cells)), (3, .ptr 3 0), (4, .ptr 4 0)], [(3, [.d (.yl l)]), (4, [.vec 10 1 0 h.params.length h.params.length]), (10, (usedOf h.params.length [0]).map fun b => .d (.bool b))], []⟩) ?_ ?_)
 ·simp only [go_sem, SHole.cells, lM]
  intro hlen
  refine ⟨⟨by omega, hlen⟩, _, zzc ?_, rfl⟩
  simp only [go_sem, ← used0, oS, Bool.and_self]
 rintro _ tm2 w2 S2 ρ2 hs2 rfl
 have hp0 : (0 < (h.params.length : Int)) = True := eq_true (by omega)
 have hx0 : (h.params.map SVar.cells).getD 0 [] = (h.params.getD 0 noVar).cells := zYn (by omega)
 refine wpIn_seq ?_
 obtain ⟨id, ops, rfl, hops, hok⟩ := zXg h2
 obtain ⟨hlen', hget⟩ := zye hops
 have hsz : ops.size = 9 := by simpa using hlen'.symm
 refine wpIn_region ?_
 have hr : List.range ops.size = List.range' 0 6 ++ [6, 7, 8] := by rw [hsz]; rfl
 rw [hr]
 refine y_pre hY hG hC hT hops hok [6, 7, 8] 6 0 (by omega) hs2 (K := fun z => ∃ sl, z = ⟨(16, .agg [.d (.int .i64 3), .d (.str (h.params.getD 0 noVar).name), .d (.int .i64 0), .full []]) :: sl, [(3, [.d (.yl l)]), (4, [.vec 10 1 0 h.params.length h.params.length]), (10, (usedOf h.params.length [0]).map fun b => .d (.bool b))], []⟩ ∧ getS sl 1 = .d (.ref h.cells) ∧ getS sl 2 = .d (.ref q.cells) ∧ getS sl 3 = .ptr 3 0 ∧ getS sl 4 = .ptr 4 0) ?_ ?_
 ·simp only [go_sem, SHole.cells, lM, hp0, hx0, SVar.cells, Int.le_refl]
  exact ⟨_, rfl, rfl, rfl, rfl, rfl⟩
 rintro _ tm3 w3 S3 ρ3 hs3 ⟨sl3, rfl, a1, a2, a3, a4⟩
 obtain ⟨gi6, i6, hl6, htg6, hti6⟩ := hget 6 ops[6] (by simp [hsz])
 simp only [go_sem, Prod.mk.injEq] at hl6
 obtain ⟨rfl, rfl⟩ := hl6
 rw [wpOpsIn_cons]
 refine zxs (ops := ops) (k := 6) (o := ops[6]) (by simp [hsz]) htg6 (yjn hY hT hti6 (by omega) hs3 (es := [(pv_q (h.params.getD 0 noVar).name).cells]) rfl ?_ rfl (by simp) ?_)
 ·simp only [go_sem, zyj]
 intro tm4 w4 S4 ρ4 hs4
 refine y_pre hY hG hC hT hops hok [] 2 7 (by omega) hs4 (K := fun z => ∃ s1, Ent z s1 ∧ s1 = ⟨[(1, .d (.ref h.cells)), (2, .d (.ref q.cells)), (3, .ptr 3 0), (4, .ptr 4 0), (5, .ptr 5 0)], [(3, [.d (.yl l)]), (4, [.vec 10 1 0 h.params.length h.params.length]), (10, (usedOf h.params.length [0]).map fun b => .d (.bool b)), (5, [.vec 17 4 0 1 1]), (17, roomC (byOf h.params [0]) 1)], []⟩) ?_ ?_
 ·have hrc : roomC (byOf h.params [0]) 1 = (pv_q (h.params.getD 0 noVar).name).cells.map .d := by
    simp [roomC, byOf]
  have hE : ∀ m1, EntCs m1 [] (List.map AV.d [(pv_q (h.params.getD 0 noVar).name).cells].flatten) (roomC (byOf h.params [0]) 1) = True := fun m1 => by
   rw [hrc, List.flatten_cons, List.flatten_nil, List.append_nil]
   exact eq_true (zZo m1 [] _)
  simp only [go_sem, a1, a2, a3, a4]
  refine ⟨_, zzc ?_, rfl⟩
  simp only [go_sem, a1, a2, a3, a4, hE, oS, Bool.and_self]
 rintro _ tm5 w5 S5 ρ5 hs5 ⟨_, he5, rfl⟩
 obtain ⟨ρ6, hs6⟩ := hs5.ent he5
 refine wpIn_seq (yregE hY hG hC hT hm h3 (zy5 h3) hs6 (fun z => z = ⟨[(1, .d (.ref h.cells)), (2, .d (.ref q.cells)), (3, .ptr 3 0), (4, .ptr 4 0), (5, .ptr 5 0), (6, .ptr 6 0)], [(3, [.d (.yl l)]), (4, [.vec 10 1 0 h.params.length h.params.length]), (10, (usedOf h.params.length [0]).map fun b => .d (.bool b)), (5, [.vec 17 4 0 1 1]), (17, roomC (byOf h.params [0]) 1), (6, [.d .nilf])], []⟩) ?_ ?_)
 ·simp only [go_sem]
  refine ⟨_, zzc ?_, rfl⟩
  simp only [go_sem, oS, Bool.and_self]
 rintro _ tm7 w7 S7 ρ7 hs7 rfl
 refine wpIn_seq (yregE hY hG hC hT hm h4 (zy5 h4) hs7 (fun z => z = ⟨[(6, .ptr 6 0)], [(3, [.d (.yl l)]), (4, [.vec 10 1 0 h.params.length h.params.length]), (10, (usedOf h.params.length [0]).map fun b => .d (.bool b)), (5, [.vec 17 4 0 1 1]), (17, roomC (byOf h.params [0]) 1), (6, [.clo zzh (chCaps0 q h)])], []⟩) ?_ ?_)
 ·simp only [go_sem, chCaps0]
  refine ⟨_, zzc ?_, rfl⟩
  simp only [go_sem, oS, Bool.and_self]
 rintro _ tm8 w8 S8 ρ8 hs8 rfl
 obtain ⟨id5, ops5, rfl, hops5, hok5⟩ := zXg h5
 obtain ⟨hlen5, hget5⟩ := zye hops5
 have hsz5 : ops5.size = 2 := by simpa using hlen5.symm
 refine wpIn_region ?_
 have hr5 : List.range ops5.size = List.range' 0 1 ++ [1] := by rw [hsz5]; rfl
 rw [hr5]
 refine y_pre hY hG hC hT hops5 hok5 [1] 1 0 (by omega) hs8 (K := fun z => z = ⟨[(19, .clo zzh (chCaps0 q h)), (6, .ptr 6 0)], [(3, [.d (.yl l)]), (4, [.vec 10 1 0 h.params.length h.params.length]), (10, (usedOf h.params.length [0]).map fun b => .d (.bool b)), (5, [.vec 17 4 0 1 1]), (17, roomC (byOf h.params [0]) 1), (6, [.clo zzh (chCaps0 q h)])], []⟩) ?_ ?_
 ·simp only [go_sem]
 rintro _ tm9 w9 S9 ρ9 hs9 rfl
 obtain ⟨gi1, i1, hl1, htg1, hti1⟩ := hget5 1 ops5[1] (by simp [hsz5])
 simp only [go_sem, Prod.mk.injEq] at hl1
 obtain ⟨rfl, rfl⟩ := hl1
 rw [wpOpsIn_cons]
 obtain ⟨f, args, argTypes, hdst, hop, hfo, hax⟩ := zVX hti1
 have hch := ch_ok hY hG hC hT hm hcl hf1 htr1 hsm hpl hp1 (q.vars.drop 1) [0] 1011 1 rfl (by simpa using hq1) (by omega) (by simp) (by omega)
 obtain ⟨⟨fc, hfc, hnamec, hbodyc⟩, hcalls⟩ := hch
 have hmm : MatchMem ⟨[(19, .clo zzh (chCaps0 q h)), (6, .ptr 6 0)], [(3, [.d (.yl l)]), (4, [.vec 10 1 0 h.params.length h.params.length]), (10, (usedOf h.params.length [0]).map fun b => .d (.bool b)), (5, [.vec 17 4 0 1 1]), (17, roomC (byOf h.params [0]) 1), (6, [.clo zzh (chCaps0 q h)])], []⟩ []
   [(1011, 17), (1003, 3), (1004, 4), (1010, 10), (1005, 5), (1006, 6)] [(1011, 17), (1003, 3), (1004, 4), (1010, 10), (1005, 5), (1006, 6)] (chM l q h [0] 1011 1) := by
  refine zxt (by omega) rfl (zY7 _ _ _ _) (zKE _ _) (zxt (by omega) rfl ⟨rfl, trivial⟩ rfl (zxt (by omega) rfl ⟨rfl, trivial⟩ rfl (zxt (by omega) rfl ?_ (ywb _) (zxt (by omega) rfl ⟨rfl, trivial⟩ rfl (zxt (by omega) rfl ⟨⟨rfl, rfl, rfl, rfl, rfl, rfl, rfl, trivial⟩, trivial⟩ rfl trivial)))))
  have := zWp [(1011, 17), (1003, 3), (1004, 4), (1010, 10), (1005, 5), (1006, 6)] [] ((usedOf h.params.length [0]).map D.bool)
  rwa [List.map_map] at this
 have hs9k := hs9
 obtain ⟨X9, Y9, hs9', hJ9, hX9, hz9⟩ := hs9k
 have e1 := hs9'.ev (ds := []) hfo rfl
 obtain ⟨csv, hv, hcaps⟩ := (show RepA w9 S9 ρ9 (.clo zzh (chCaps0 q h)) _ from e1)
 obtain ⟨pn', p1, p2, hh⟩ := yjp hY hs9 hmm rfl rfl
 have hmv : MatchVs [(1011, 17), (1003, 3), (1004, 4), (1010, 10), (1005, 5), (1006, 6)] [] ([.d (.int .i64 1)] ++ chCaps0 q h) (.d (.int .i64 (([0] : List Nat).length : Int)) :: chCaps q h) := ⟨rfl, rfl, rfl, rfl, rfl, rfl, rfl, trivial⟩
 have hargs := MatchVs.sound (RepAs.append (hs9'.evs (ds := []) hax rfl) hcaps) hmv
 have hrun' : (execOp (Act.eval ⟨tm9, []⟩) ops5[1]).run P w9 = .ok (.enter zzh (args.map (Act.eval ⟨tm9, []⟩) ++ csv)) w9 := by
  unfold execOp
  simp only [hop]
  have hname' : ¬ fc.name = "runtime.NumGoroutine" := by simpa using hnamec
  have hbody' : ¬ fc.body = none := by intro e; simp [e] at hbodyc
  simp [resolve, invoke, callFunc, Deferred.ofValue, hv, hfc, hname', hbody']
 refine zxs (ops := ops5) (k := 1) (o := ops5[1]) (by simp [hsz5]) htg1 ⟨fun _ _ => trivial, ?_⟩
 rw [Oper.semAt_eq _ _ _ (fun c hc => by rw [hop] at hc; cases hc), hrun', Oper.uponIn_enter]
 refine ⟨(by intro hd; cases hd), zvO (FR.fw none) ((hcalls [] [] pn' (w, S) w9 S9 _ _ (by simp) p1 (fun s b _ hb => p2 s b hb) hh (by simpa using hargs)).mono ?_)⟩
 rintro e W' ⟨bb, S', ρ', m1, rfl, ⟨X', Y', hsim', hJ', _⟩, _⟩
 have hres : ∀ tm w, (results fn tm).run P w = .ok (.tuple #[]) w := by
  intro tm w
  have : fn.results = #[] := by
   have hrs' : fn.results.toList.mapM (trRes T) = some [] := hrs
   cases hc : fn.results.toList with
   | nil => exact Array.toList_eq_nil_iff.1 hc
   | cons x xs =>
    rw [hc] at hrs'
    simp only [List.mapM_cons, Option.bind_eq_bind, Option.bind_eq_some_iff, Option.pure_def, Option.some.injEq] at hrs'
    obtain ⟨_, _, _, _, h⟩ := hrs'
    cases h
  rw [zx7, this]
  simp
 simp only [Act.put, hdst]
 refine ⟨_, hres _ _, _, rfl, ?_⟩
 subst hJO
 cases bb with
 | true => exact .inl ⟨S', Y', by simpa using hJ'⟩
 | false => exact .inr ⟨S', Y', hJ'⟩
end Go.Abs
end
section
namespace Go.Abs
variable {E : AEnv} (Z : Sys E)
include Z
theorem yyU : CloneLaw E := by
 intro es cap hsm hcap
 refine Z.zzl _ _ ⟨bl rfl, bl rfl, rfl, ?_⟩
 have hrow : rowsOf 4 es.length (roomC es cap) = some (es.map Pred.cells) := by
  have := zK9 (e := 4) (es.map Pred.cells) (List.replicate (cap * 4 - es.length * 4) .undef) (Pred.lens es)
  rwa [lM] at this
 have hfit : (es.length * 4 ≤ (roomC es cap).length) = True := eq_true (by rw [zJk hcap]; exact Nat.mul_le_mul_right _ hcap)
 simp only [zyt, go_sem, initA, AV.elemsM, hrow, hfit, zA, List.drop_zero]
 exact ⟨⟨fun e he => (by cases he), by omega, by omega⟩, rfl, zzc (by simp only [go_sem, oS])⟩
end Go.Abs
end
section
namespace Go.Abs
def instS (q : SQual) (h : SHole) : List Pred :=
 if (q.vars.length : Int) == 0 || (h.params.length : Int) == 0 || !((q.vars.getD 0 noVar).sort == (h.params.getD 0 noVar).sort) then []
 else (chI h.params (q.vars.drop 1) [0]).map fun l => subAll (q.vars.map SVar.name) (byOf h.params l) q.body
structure ChOk (ps : List SVar) (vs : List SVar) (l : List Nat) : Prop where
 len : l.length = vs.length
 lt : ∀ i, i < vs.length → l.getD i 0 < ps.length
 sort : ∀ i, i < vs.length → (ps.getD (l.getD i 0) noVar).sort = (vs.getD i noVar).sort
theorem zWf {α : Type} {a b : List α} {d : α} {i : Nat} (h : i < a.length) : (a ++ b).getD i d = a.getD i d := by
 simp only [List.getD_eq_getElem?_getD, List.getElem?_append_left h]
theorem zWe {α : Type} {a : List α} {d x : α} : (a ++ [x]).getD a.length d = x := by simp
theorem ykF (ps : List SVar) : ∀ (rem done : List SVar) (l : List Nat), ChOk ps done l → ∀ x ∈ chI ps rem l, ChOk ps (done ++ rem) x
 | [], done, l, h, x, hx => by
  rw [chI, List.mem_singleton] at hx
  subst hx; simpa using h
 | v :: rem, done, l, h, x, hx => by
  rw [chI, List.mem_flatMap] at hx
  obtain ⟨k, hk, hx⟩ := hx
  rw [List.mem_range'_1] at hk
  by_cases hc : (l.contains k || !((ps.getD k noVar).sort == v.sort)) = true
  ·rw [if_pos hc] at hx; cases hx
  ·rw [if_neg hc] at hx
   simp only [Bool.or_eq_true, not_or, Bool.not_eq_true, Bool.not_eq_false', beq_iff_eq] at hc
   have hkl : k < ps.length := by omega
   have := ykF ps rem (done ++ [v]) (l ++ [k]) ⟨by simp [h.len], ?_, ?_⟩ x hx
   ·simpa using this
   ·intro i hi
    by_cases e : i < done.length
    ·rw [zWf (by rw [h.len]; exact e)]; exact h.lt i e
    ·have : i = done.length := by simp at hi; omega
     subst this
     rw [← h.len, zWe]; exact hkl
   ·intro i hi
    by_cases e : i < done.length
    ·rw [zWf (by rw [h.len]; exact e), zWf e]; exact h.sort i e
    ·have : i = done.length := by simp at hi; omega
     subst this
     rw [zWe, ← h.len, zWe]; exact hc.2
theorem yyQ {ps : List SVar} {v : SVar} {vs : List SVar} (hp : 0 < ps.length) (hs : v.sort = (ps.getD 0 noVar).sort) : ∀ x ∈ chI ps vs [0], ChOk ps (v :: vs) x := by
 intro x hx
 refine ykF ps vs [v] [0] ⟨rfl, ?_, ?_⟩ x hx
 ·intro i hi
  have : i = 0 := by simp at hi; omega
  subst this; exact hp
 ·intro i hi
  have : i = 0 := by simp at hi; omega
  subst this; exact hs.symm
def Distinct (l : List SVar) : Prop := (l.map SVar.name).Nodup
theorem zW6 {l : List SVar} (hd : Distinct l) {i : Nat} (hi : i < l.length) : findVar l (l.getD i noVar).name = ((l.getD i noVar).sort, true) := by
 obtain ⟨a, x, r, rfl, rfl⟩ : ∃ a x r, l = a ++ x :: r ∧ a.length = i := ⟨l.take i, l[i], l.drop (i + 1), by simp, by simp; omega⟩
 have e : (a ++ x :: r).getD a.length noVar = x := by simp
 rw [e]
 unfold findVar
 have hr : (a ++ x :: r).reverse = r.reverse ++ x :: a.reverse := by simp
 unfold Distinct at hd
 rw [mA, mC] at hd
 have h2 := (List.nodup_append.1 hd).2.1
 rw [List.nodup_cons] at h2
 rw [hr, zjn]
 ·simp
 ·intro y hy
  have hy : y ∈ r := by simpa using hy
  simp only [beq_eq_false_iff_ne, ne_eq]
  intro e
  exact h2.1 (e ▸ List.mem_map_of_mem hy)
theorem zYE {l : List SVar} {s : Str} (h : (findVar l s).2 = true) : ∃ i, i < l.length ∧ (l.getD i noVar).name = s := by
 unfold findVar at h
 cases hc : l.reverse.find? (fun v => v.name == s) with
 | none => rw [hc] at h; cases h
 | some v =>
  have h1 := List.mem_of_find?_eq_some hc
  have h2 := List.find?_some hc
  obtain ⟨i, hi, rfl⟩ := List.getElem_of_mem (List.mem_reverse.1 h1)
  exact ⟨i, hi, by simpa [List.getD_eq_getElem?_getD, hi] using h2⟩
theorem yy9 {l : List SVar} (hd : Distinct l) {i : Nat} (hi : i < l.length) : findIx (l.getD i noVar).name 0 (l.map SVar.name) = i := by
 obtain ⟨a, x, r, rfl, rfl⟩ : ∃ a x r, l = a ++ x :: r ∧ a.length = i := ⟨l.take i, l[i], l.drop (i + 1), by simp, by simp; omega⟩
 have e : (a ++ x :: r).getD a.length noVar = x := by simp
 rw [e, mA, mC]
 unfold Distinct at hd
 rw [mA, mC] at hd
 have h2 := (List.nodup_append.1 hd).2.2
 rw [zqD x.name _ 0 _ (fun hm => h2 _ hm _ (by simp) rfl), findIx, if_pos rfl]
 simp
theorem ywt {ps : List SVar} {l : List Nat} {i : Nat} (h : i < l.length) : (byOf ps l).getD i zeroP = pv_q (ps.getD (l.getD i 0) noVar).name := by
 unfold byOf
 simp [List.getD_eq_getElem?_getD, h]
theorem zQH (ps : List SVar) (l : List Nat) : (byOf ps l).length = l.length := by simp [byOf]
theorem yx5 {ps vs : List SVar} {l : List Nat} (hl : ChOk ps vs l) (hd : Distinct vs) {i : Nat} (hi : i < vs.length) (n : Int) (ks : List Pred) :
  subAll (vs.map SVar.name) (byOf ps l) (.mk 3 (vs.getD i noVar).name n ks) = pv_q (ps.getD (l.getD i 0) noVar).name := by
 have hll := hl.len
 rw [zk9, yy9 hd hi, zQH, if_pos (by simp; omega)]
 rw [Int.toNat_natCast, ywt (by omega)]
theorem yzT {ps vs : List SVar} {syms : List SSym} {l : List Nat} (hl : ChOk ps vs l) (hd : Distinct vs) (hdp : Distinct ps) (p : Pred) (h : (ofS ⟨vs, syms, []⟩ p).2 = 0) :
  ofS ⟨ps, syms, []⟩ (subAll (vs.map SVar.name) (byOf ps l) p) = ofS ⟨vs, syms, []⟩ p := by
 induction p using Pred.ind with
 | h o s n ks ih =>
 obtain ⟨hk, he⟩ := zVx h
 by_cases ho : o = 3
 ·subst ho
  rw [he] at h ⊢
  simp only [nodeS] at h ⊢
  have hf : (findVar vs s).2 = true := by
   cases hf : (findVar vs s).2 with
   | true => rfl
   | false => simp [hf] at h
  obtain ⟨i, hi, rfl⟩ := zYE hf
  rw [yx5 hl hd hi, pv_q, zWt (by simp)]
  simp only [nodeS]
  rw [zW6 hd hi, zW6 hdp (hl.lt i hi), hl.sort i hi]
  rfl
 ·have hmap : ∀ k ∈ ks.map (subAll (vs.map SVar.name) (byOf ps l)), (ofS ⟨ps, syms, []⟩ k).2 = 0 := by
    intro k hk'
    obtain ⟨k', hk'', rfl⟩ := List.mem_map.1 hk'
    rw [ih k' hk'' (hk k' hk'')]; exact hk k' hk''
  rw [zk9, if_neg (by simp [ho]), zWt hmap, he, List.map_map]
  have e : (ks.map ((fun k => (ofS ⟨ps, syms, []⟩ k).1) ∘ subAll (vs.map SVar.name) (byOf ps l))) = ks.map fun k => (ofS ⟨vs, syms, []⟩ k).1 := by
   refine List.map_congr_left fun k hk' => ?_
   simp only [Function.comp]
   rw [ih k hk' (hk k hk')]
  rw [e]
  unfold nodeS
  have h3 : (o == 3) = false := by simpa using ho
  simp only [h3]
  rfl
theorem zJV {ps vs : List SVar} {syms : List SSym} {l : List Nat} (hl : ChOk ps vs l) (hd : Distinct vs) (hv : ∀ i, i < ps.length → calledOk 3 (ps.getD i noVar).name = true) (p : Pred)
  (hs : (ofS ⟨vs, syms, []⟩ p).2 = 0) (h : p.formE = 0) :
  (subAll (vs.map SVar.name) (byOf ps l) p).formE = 0 ∧ (subAll (vs.map SVar.name) (byOf ps l) p).op = p.op ∧ (subAll (vs.map SVar.name) (byOf ps l) p).nodes = p.nodes ∧ (subAll (vs.map SVar.name) (byOf ps l) p).depth = p.depth := by
 induction p using Pred.ind with
 | h o s n ks ih =>
 obtain ⟨hk, he⟩ := zVx hs
 rw [Pred.zZS] at h
 have hn : nodeE o s n ks = 0 := by
  by_cases hc : (nodeE o s n ks != 0) = true
  ·rw [if_pos hc] at h; exact h
  ·simpa using hc
 rw [hn] at h
 have hks : ∀ k ∈ ks, k.formE = 0 := by
  have hF : Pred.formE.formEs ks = 0 := h
  clear ih he hk hs hn h
  revert hF
  induction ks with
  | nil => simp
  | cons a ks ih =>
   intro h
   rw [Pred.formE.formEs] at h
   by_cases hc : (a.formE != 0) = true
   ·rw [if_pos hc] at h; simp [h] at hc
   ·rw [if_neg hc] at h
    intro k hk
    rcases List.mem_cons.1 hk with rfl | hk
    ·simpa using hc
    ·exact ih h k hk
 by_cases ho : o = 3
 ·subst ho
  rw [he] at hs
  simp only [nodeS] at hs
  have hf : (findVar vs s).2 = true := by
   cases hf : (findVar vs s).2 with
   | true => rfl
   | false => simp [hf] at hs
  obtain ⟨i, hi, rfl⟩ := zYE hf
  have hkz : ks = [] := by
   unfold nodeE at hn
   by_cases h1 : (decide ((3 : Int) < 1) || decide ((3 : Int) > 18) || !(vs.getD i noVar).name == [] && !isOpNamed 3 || n != 0 && !((3 : Int) == 1 || (3 : Int) == 2) || !kidsOk 3 ks.length) = true
   ·rw [if_pos h1] at hn; cases hn
   ·simp only [Bool.or_eq_true, not_or] at h1
    have := h1.2
    simp [kidsOk] at this
    exact this
  subst hkz
  rw [yx5 hl hd hi]
  refine ⟨?_, rfl, rfl, rfl⟩
  rw [pv_q, Pred.zZS]
  have : nodeE 3 (ps.getD (l.getD i 0) noVar).name 0 [] = 0 := by
   unfold nodeE
   have hc := hv _ (hl.lt i hi)
   rw [hc]
   rw [if_neg (by simp [isOpNamed, kidsOk]), if_neg (by simp), if_neg (by simp), if_neg (by simp)]
  rw [this]; rfl
 ·have hall := fun k hk' => ih k hk' (hk k hk') (hks k hk')
  rw [zk9, if_neg (by simp [ho])]
  refine ⟨?_, rfl, ?_, ?_⟩
  ·rw [Pred.zZS]
   have e1 : nodeE o s n (ks.map (subAll (vs.map SVar.name) (byOf ps l))) = nodeE o s n ks := by
    unfold nodeE
    have e2 : (ks.map (subAll (vs.map SVar.name) (byOf ps l))).map Pred.op = ks.map Pred.op := by
     rw [List.map_map]; exact List.map_congr_left fun k hk' => (hall k hk').2.1
    rw [lM, e2]
   rw [e1, hn]
   have : Pred.formE.formEs (ks.map (subAll (vs.map SVar.name) (byOf ps l))) = 0 := Pred.zKf (by
    intro x hx
    obtain ⟨k, hk', rfl⟩ := List.mem_map.1 hx
    exact (hall k hk').1)
   rw [this]; rfl
  ·rw [Pred.zXz, Pred.zXz]
   show (ks.map _).foldl _ 1 = ks.foldl _ 1
   rw [List.foldl_map]
   have : ∀ (l' : List Pred) (a : Int), (∀ k ∈ l', k ∈ ks) → l'.foldl (fun a k => IntKind.i64.wrap (a + (subAll (vs.map SVar.name) (byOf ps l) k).nodes)) a = l'.foldl (fun a k => IntKind.i64.wrap (a + k.nodes)) a := by
    intro l'
    induction l' with
    | nil => intros; rfl
    | cons x l' ih' =>
     intro a hm
     rw [List.foldl_cons, List.foldl_cons, (hall x (hm x (by simp))).2.2.1]
     exact ih' _ fun k hk => hm k (by simp [hk])
   exact this ks 1 fun k hk => hk
  ·rw [Pred.zXt, Pred.zXt]
   show IntKind.i64.wrap ((ks.map _).foldl _ 0 + 1) = IntKind.i64.wrap (ks.foldl _ 0 + 1)
   rw [List.foldl_map]
   have : ∀ (l' : List Pred) (a : Int), (∀ k ∈ l', k ∈ ks) → l'.foldl (fun a k => if (subAll (vs.map SVar.name) (byOf ps l) k).depth > a then (subAll (vs.map SVar.name) (byOf ps l) k).depth else a) a = l'.foldl (fun a k => if k.depth > a then k.depth else a) a := by
    intro l'
    induction l' with
    | nil => intros; rfl
    | cons x l' ih' =>
     intro a hm
     rw [List.foldl_cons, List.foldl_cons, (hall x (hm x (by simp))).2.2.2]
     exact ih' _ fun k hk => hm k (by simp [hk])
   rw [this ks 0 fun k hk => hk]
theorem sub_zero (names : List Str) (by' : List Pred) : subAll names by' zeroP = zeroP := by
 rw [zeroP, zk9, if_neg (by simp)]; rfl
theorem zJZ {q : SQual} {h : SHole} {syms : List SSym} (hd : Distinct q.vars) (hdp : Distinct h.params) (hv : ∀ i, i < h.params.length → calledOk 3 (h.params.getD i noVar).name = true)
  (hb : BoolS ⟨q.vars, syms, []⟩ q.body = 0) : ∀ p ∈ instS q h, BoolS ⟨h.params, syms, []⟩ p = 0 := by
 intro p hp
 unfold instS at hp
 split at hp
 ·cases hp
 rename_i hc
 simp only [Bool.or_eq_true, not_or, Bool.not_eq_true, Bool.not_eq_false', beq_iff_eq] at hc
 obtain ⟨⟨h1, h2⟩, h3⟩ := hc
 obtain ⟨l, hl, rfl⟩ := List.mem_map.1 hp
 obtain ⟨v, vs, hvs⟩ : ∃ v vs, q.vars = v :: vs := by
  cases hq : q.vars with
  | nil => rw [hq] at h1; simp at h1
  | cons v vs => exact ⟨v, vs, rfl⟩
 have hpos : 0 < h.params.length := by
  rcases Nat.eq_zero_or_pos h.params.length with e | e
  ·rw [e] at h2; simp at h2
  ·exact e
 have hok : ChOk h.params q.vars l := by
  rw [hvs] at hl h3 ⊢
  exact yyQ hpos h3 l hl
 by_cases hz : q.body.same zeroP = true
 ·rw [(Pred.zjE _ _).1 hz, sub_zero]
  unfold BoolS
  rw [if_pos (Pred.zqr _)]
 ·unfold BoolS at hb
  rw [if_neg hz] at hb
  split at hb
  ·cases hb
  rename_i hnb
  obtain ⟨hck, hof, heq⟩ := yvP hb
  have hfo : q.body.formE = 0 := zwK hck
  obtain ⟨f1, _, f2, f3⟩ := zJV (ps := h.params) hok hd hv q.body hof hfo
  have hcs := yzT (ps := h.params) hok hd hdp q.body hof
  have hck' : (subAll (q.vars.map SVar.name) (byOf h.params l) q.body).checkE = 0 := by
   unfold Pred.checkE at hck ⊢
   rw [f2, f3, f1]
   split at hck
   ·cases hck
   ·rename_i hd1
    rw [if_neg hd1]
    split at hck
    ·cases hck
    ·rename_i hd2
     rw [if_neg hd2]
  have ho2 : OfS ⟨h.params, syms, []⟩ (subAll (q.vars.map SVar.name) (byOf h.params l) q.body) = OfS ⟨q.vars, syms, []⟩ q.body := by rw [yyl hck', hcs, heq]
  unfold BoolS
  rw [ho2]
  split
  ·rfl
  ·exact hb
end Go.Abs
end
section
namespace Go.Abs
def candStep (out : List Pred) (p : Pred) : List Pred := if decide ((out.length : Int) < 100) && !hasP out p then out ++ [p] else out
def candGo (out l : List Pred) : List Pred := l.foldl candStep out
def candS (l : List SQual) (h : SHole) : List Pred := l.foldl (fun out q => candGo out (instS q h)) []
theorem zXI (out l : List Pred) (p : Pred) : candGo out (l ++ [p]) = candStep (candGo out l) p := by simp [candGo]
theorem yzs (l : List SQual) (h : SHole) : candS l h = candGo [] (l.flatMap fun q => instS q h) := by
 unfold candS candGo
 rw [List.foldl_flatMap]
theorem zYD {out : List Pred} (h : out.length ≤ 100) (p : Pred) : (candStep out p).length ≤ 100 := by
 unfold candStep
 split
 ·rename_i hc; simp at hc; simp; omega
 ·exact h
theorem zqy : ∀ (l : List Pred) {out : List Pred}, out.length ≤ 100 → (candGo out l).length ≤ 100
 | [], _, h => h
 | p :: l, _, h => zqy l (zYD h p)
theorem zW3 : ∀ (l out : List Pred), ∃ r, candGo out l = out ++ r
 | [], out => ⟨[], by simp [candGo]⟩
 | p :: l, out => by
  obtain ⟨r, hr⟩ := zW3 l (candStep out p)
  have : ∃ r', candStep out p = out ++ r' := by
   unfold candStep; split
   ·exact ⟨[p], rfl⟩
   ·exact ⟨[], by simp⟩
  obtain ⟨r', hr'⟩ := this
  refine ⟨r' ++ r, ?_⟩
  show candGo (candStep out p) l = _
  rw [hr, hr', List.append_assoc]
structure CandInv (all out : List Pred) : Prop where
 len : out.length ≤ 100
 sub : ∀ x ∈ out, x ∈ all
 nodup : out.Nodup
 full : out.length < 100 → ∀ x ∈ all, x ∈ out
theorem yyN {all out : List Pred} (h : CandInv all out) (p : Pred) : CandInv (all ++ [p]) (candStep out p) := by
 have hl := zYD h.len p
 unfold candStep at hl ⊢
 split at hl
 ·rename_i hc
  rw [if_pos hc]
  simp only [Bool.and_eq_true, Bool.not_eq_true', decide_eq_true_eq] at hc
  have hn : p ∉ out := fun hm => by rw [← zqF, hc.2] at hm; cases hm
  refine ⟨hl, ?_, ?_, ?_⟩
  ·intro x hx
   rcases List.mem_append.1 hx with hx | hx
   ·exact List.mem_append.2 (.inl (h.sub x hx))
   ·exact List.mem_append.2 (.inr hx)
  ·rw [List.nodup_append]
   refine ⟨h.nodup, by simp, ?_⟩
   intro a ha b hb e
   simp at hb
   subst hb; subst e; exact hn ha
  ·intro _ x hx
   rcases List.mem_append.1 hx with hx | hx
   ·exact List.mem_append.2 (.inl (h.full (by omega) x hx))
   ·exact List.mem_append.2 (.inr hx)
 ·rename_i hc
  rw [if_neg hc]
  refine ⟨hl, fun x hx => List.mem_append.2 (.inl (h.sub x hx)), h.nodup, ?_⟩
  intro hlt x hx
  rcases List.mem_append.1 hx with hx | hx
  ·exact h.full hlt x hx
  ·simp at hx
   subst hx
   simp only [Bool.and_eq_true, Bool.not_eq_true', decide_eq_true_eq, not_and, Bool.not_eq_false] at hc
   exact zqF.1 (hc (by omega))
theorem zQK : ∀ (l all out : List Pred), CandInv all out → CandInv (all ++ l) (candGo out l)
 | [], all, out, h => by simpa [candGo] using h
 | p :: l, all, out, h => by
  have := zQK l (all ++ [p]) (candStep out p) (yyN h p)
  simpa [candGo] using this
theorem yyM (l : List SQual) (h : SHole) : CandInv (l.flatMap fun q => instS q h) (candS l h) := by
 rw [yzs]
 have := zQK (l.flatMap fun q => instS q h) [] [] ⟨by simp, by simp, by simp, by simp⟩
 simpa using this
theorem yzt (l : List SQual) (q : SQual) (h : SHole) : candS (l ++ [q]) h = candGo (candS l h) (instS q h) := by simp [candS]
theorem zXJ (l : List SQual) (h : SHole) : (candS l h).length ≤ 100 := (yyM l h).len
theorem zJM (ps : List SVar) : ∀ (rem : List SVar) (l : List Nat), (chI ps rem l).length ≤ ps.length ^ rem.length
 | [], l => by simp [chI]
 | v :: rem, l => by
  rw [chI, List.length_flatMap, lC, Nat.pow_succ, Nat.mul_comm]
  have : ∀ (ks : List Nat), (ks.map fun k => (if l.contains k || !((ps.getD k noVar).sort == v.sort) then [] else chI ps rem (l ++ [k])).length).sum ≤ ks.length * ps.length ^ rem.length := by
   intro ks
   induction ks with
   | nil => simp
   | cons k ks ih =>
    rw [mC, List.sum_cons, lC, Nat.succ_mul]
    have h1 : (if l.contains k || !((ps.getD k noVar).sort == v.sort) then [] else chI ps rem (l ++ [k])).length ≤ ps.length ^ rem.length := by
     split
     ·simp
     ·exact zJM ps rem _
    omega
  refine Nat.le_trans (this _) (Nat.mul_le_mul_right _ ?_)
  simp
theorem zVQ (q : SQual) (h : SHole) : (instS q h).length ≤ h.params.length ^ (q.vars.length - 1) := by
 unfold instS
 split
 ·simp
 ·rw [lM]
  have := zJM h.params (q.vars.drop 1) [0]
  rwa [List.length_drop] at this
def orderP : Pred → List Str → List Str
 | .mk o s _ ks, l => if o == 3 && !l.contains s then l ++ [s] else orders ks l
where
 orders : List Pred → List Str → List Str
 | [], l => l
 | k :: ks, l => orders ks (orderP k l)
theorem zJ3 (ks : List Pred) (l : List Str) : orderP.orders ks l = ks.foldl (fun l k => orderP k l) l := by
 induction ks generalizing l with
 | nil => rw [orderP.orders]; rfl
 | cons k ks ih => rw [orderP.orders, ih]; rfl
theorem zWu (o : Int) (s : Str) (n : Int) (ks : List Pred) (l : List Str) : orderP (.mk o s n ks) l = if o == 3 && !l.contains s then l ++ [s] else ks.foldl (fun l k => orderP k l) l := by
 rw [orderP, zJ3]
theorem zwO : ∀ (ks : List Pred) (l : List Str), (∀ k ∈ ks, ∀ l, (orderP k l).length ≤ l.length + k.cnt) → (ks.foldl (fun l k => orderP k l) l).length ≤ l.length + Pred.cnts ks
 | [], l, _ => by simp
 | k :: ks, l, h => by
  rw [List.foldl_cons, Pred.cnts]
  have h1 := zwO ks (orderP k l) fun y hy => h y (by simp [hy])
  have h2 := h k (by simp) l
  omega
theorem zqJ (p : Pred) : ∀ l, (orderP p l).length ≤ l.length + p.cnt := by
 induction p using Pred.ind with
 | h o s n ks ih =>
 intro l
 have h := zwO ks l ih
 rw [zWu, Pred.cnt]
 split
 ·rw [lA, List.length_singleton]; omega
 ·omega
def isVar (name : Str) (k : Pred) : Bool := k.op == 3 && k.name == name
def holedP : Pred → Bool
 | .mk o _ _ ks => o == 5 || (o == 4 && ks.any fun k => k.op == 3 && !(k.name == sV)) || holeds ks
where
 holeds : List Pred → Bool
 | [] => false
 | k :: ks => holedP k || holeds ks
theorem yzH (ks : List Pred) : holedP.holeds ks = ks.any holedP := by
 induction ks with
 | nil => rfl
 | cons k ks ih => rw [holedP.holeds, ih]; rfl
theorem zVP (o : Int) (s : Str) (n : Int) (ks : List Pred) : holedP (.mk o s n ks) = (o == 5 || (o == 4 && ks.any fun k => k.op == 3 && !(k.name == sV)) || ks.any holedP) := by
 rw [holedP, yzH]
def appliedP : Pred → Bool
 | .mk o _ _ ks => applieds o ks
where
 applieds (o : Int) : List Pred → Bool
 | [] => false
 | k :: ks => (o == 4 && k.op == 3 && !(k.name == sV) || appliedP k) || applieds o ks
theorem zXE (o : Int) (s : Str) (n : Int) (ks : List Pred) : appliedP (.mk o s n ks) = ks.any fun k => o == 4 && k.op == 3 && !(k.name == sV) || appliedP k := by
 rw [appliedP]
 induction ks with
 | nil => rfl
 | cons k ks ih => rw [appliedP.applieds, ih]; rfl
theorem yyv {α : Type} (f g : α → Bool) (l : List α) : (l.any fun x => f x || g x) = (l.any f || l.any g) := by
 induction l with
 | nil => rfl
 | cons x l ih => simp only [List.any_cons, ih]; cases f x <;> cases g x <;> simp
theorem any_congr' {α : Type} {f g : α → Bool} {l : List α} (h : ∀ x ∈ l, f x = g x) : l.any f = l.any g := by
 induction l with
 | nil => rfl
 | cons x l ih => rw [List.any_cons, List.any_cons, h x (by simp), ih fun y hy => h y (by simp [hy])]
def hasHole : Pred → Bool
 | .mk o _ _ ks => o == 5 || hasHoles ks
where
 hasHoles : List Pred → Bool
 | [] => false
 | k :: ks => hasHole k || hasHoles ks
theorem zKj (o : Int) (s : Str) (n : Int) (ks : List Pred) : hasHole (.mk o s n ks) = (o == 5 || ks.any hasHole) := by
 rw [hasHole]
 congr 1
 induction ks with
 | nil => rfl
 | cons k ks ih => rw [hasHole.hasHoles, ih]; rfl
theorem yzJ (p : Pred) : ∀ l, decide ((innerP 5 p l).length > 0) = (decide (l.length > 0) || hasHole p) := by
 induction p using Pred.ind with
 | h o s n ks ih =>
 intro l
 have hf : ∀ (ks' : List Pred), (∀ k ∈ ks', k ∈ ks) → ∀ l, decide ((ks'.foldl (fun l k => innerP 5 k l) l).length > 0) = (decide (l.length > 0) || ks'.any hasHole) := by
  intro ks'
  induction ks' with
  | nil => intro _ l; simp
  | cons k ks' ih' =>
   intro hm l
   rw [List.foldl_cons, ih' (fun x hx => hm x (by simp [hx])), ih k (hm k (by simp)), List.any_cons, Bool.or_assoc]
 have hf := hf ks (fun _ h => h) l
 rw [zWj, zKj]
 cases ho : (o == 5) with
 | false =>
  simp only [Bool.false_and, Bool.false_or]
  exact hf
 | true =>
  simp only [Bool.true_and, Bool.true_or, Bool.or_true]
  cases hc : hasP (ks.foldl (fun l k => innerP 5 k l) l) (.mk o s n ks) with
  | false => simp
  | true =>
   simp only [Bool.not_true]
   have := zqF.1 hc
   exact decide_eq_true (List.length_pos_of_mem this)
theorem ywY (p : Pred) : holedP p = (decide ((innerP 5 p []).length > 0) || appliedP p) := by
 rw [yzJ p []]
 simp only [lN, Nat.lt_irrefl, gt_iff_lt, decide_false, Bool.false_or]
 induction p using Pred.ind with
 | h o s n ks ih =>
 rw [zVP, zKj, zXE, yyv, any_congr' ih, yyv]
 have : (ks.any fun k => o == 4 && k.op == 3 && !(k.name == sV)) = (o == 4 && ks.any fun k => k.op == 3 && !(k.name == sV)) := by
  cases o == 4 <;> simp
 rw [this]
 cases o == 5 <;> cases (o == 4 && ks.any fun k => k.op == 3 && !(k.name == sV)) <;> cases ks.any hasHole <;> cases ks.any appliedP <;> rfl
def truthP (p : Pred) (s : Str) : Bool := p.op == 2 || decide (p.op ≥ 10) && decide (p.op ≤ 18) || p.op == 3 && p.name == sV && s == sBool
def connB (o : Int) : Bool := decide (o ≥ 14) && decide (o ≤ 18)
def eqHead (name s : Str) (ks : List Pred) : Bool := isVar name (ks.getD 0 zeroP) && truthP (ks.getD 1 zeroP) s || isVar name (ks.getD 1 zeroP) && truthP (ks.getD 0 zeroP) s
def boolP (name s : Str) : Pred → Bool
 | .mk o _ _ ks => connB o && ks.any (isVar name) || ((o == 10 || o == 11) && (ks.length : Int) == 2 && eqHead name s ks) || bools ks
where
 bools : List Pred → Bool
 | [] => false
 | k :: ks => boolP name s k || bools ks
theorem zQG (name s : Str) (o : Int) (nm : Str) (n : Int) (ks : List Pred) : boolP name s (.mk o nm n ks) = (connB o && ks.any (isVar name) || ((o == 10 || o == 11) && (ks.length : Int) == 2 && eqHead name s ks) || ks.any (boolP name s)) := by
 rw [boolP]
 congr 1
 induction ks with
 | nil => rfl
 | cons k ks ih => rw [boolP.bools, ih]; rfl
def refK (o : Int) (name s : Str) (ks : List Pred) (i : Nat) : Bool := isVar name (ks.getD i zeroP) && (connB o || (o == 10 || o == 11) && truthP (ks.getD (1 - i) zeroP) s) || boolP name s (ks.getD i zeroP)
theorem zVi {ks : List Pred} (f : Pred → Bool) : ((List.range ks.length).any fun i => f (ks.getD i zeroP)) = ks.any f := by
 rw [Bool.eq_iff_iff, List.any_eq_true, List.any_eq_true]
 constructor
 ·rintro ⟨i, hi, h⟩
  rw [List.mem_range] at hi
  have e : ks.getD i zeroP = ks[i] := by simp [List.getD_eq_getElem?_getD, hi]
  exact ⟨ks[i], List.getElem_mem hi, e ▸ h⟩
 ·rintro ⟨x, hx, h⟩
  obtain ⟨i, hi, rfl⟩ := List.getElem_of_mem hx
  refine ⟨i, List.mem_range.2 hi, ?_⟩
  simpa [List.getD_eq_getElem?_getD, hi] using h
theorem ykk {o : Int} (name s nm : Str) (n : Int) {ks : List Pred} (h2 : (o == 10 || o == 11) = true → ks.length = 2) : ((List.range ks.length).any (refK o name s ks)) = boolP name s (.mk o nm n ks) := by
 rw [zQG]
 unfold refK
 rw [yyv, zVi (boolP name s)]
 congr 1
 cases ho : (o == 10 || o == 11) with
 | true =>
  have hl := h2 ho
  have hc : connB o = false := by
   unfold connB
   simp only [Bool.or_eq_true, beq_iff_eq] at ho
   rcases ho with rfl | rfl <;> rfl
  obtain ⟨a, b, rfl⟩ := zwx hl
  rw [hc]
  simp [eqHead, List.range_succ]
 | false =>
  simp only [Bool.false_and, Bool.or_false]
  have := zVi (ks := ks) (fun k => isVar name k && connB o)
  rw [this]
  cases connB o <;> simp
theorem yx9 (p : Pred) (s : Str) : truthP p s = (p.op == 2 || p.op == 10 || p.op == 11 || p.op == 12 || p.op == 13 || (p.op == 3 && p.name == sV && s == sBool) || (p.op == 14 || p.op == 15 || p.op == 16 || p.op == 17 || p.op == 18)) := by
 unfold truthP
 generalize p.op = o
 generalize (p.name == sV && s == sBool) = t
 have : (decide (o ≥ 10) && decide (o ≤ 18)) = (o == 10 || o == 11 || o == 12 || o == 13 || o == 14 || o == 15 || o == 16 || o == 17 || o == 18) := by
  rw [Bool.eq_iff_iff]; simp; omega
 rw [this]
 cases o == 2 <;> cases o == 10 <;> cases o == 11 <;> cases o == 12 <;> cases o == 13 <;> cases o == 14 <;> cases o == 15 <;> cases o == 16 <;> cases o == 17 <;> cases o == 18 <;> cases hp : (p.name == sV) <;> cases hs : (s == sBool) <;> cases (o == 3) <;> rfl
theorem zQN (o : Int) : connB o = (o == 14 || o == 15 || o == 16 || o == 17 || o == 18) := by
 unfold connB; rw [Bool.eq_iff_iff]; simp; omega
def othersP (c : Pred) : List Str := (orderP c []).filter fun x => !(x == sV)
def varOf (c : Pred) (s x : Str) : SVar := ⟨x, if boolP x s c then sBool else sInt⟩
def fromP (c : Pred) (s : Str) : List SVar := ⟨sV, s⟩ :: (othersP c).map (varOf c s)
def goodQ (c : Pred) : Bool := !(c.checkE != 0 || (othersP c).length == (orderP c []).length || decide (((othersP c).length : Int) > 3) || holedP c)
def qName (b : UInt8) (n : Nat) : Str := [b] ++ Lib.itoa n
def ofStep (s : Str) (out : List SQual) (c : Pred) : List SQual := if goodQ c && !hasP (out.map SQual.body) c then out ++ [⟨qName 113 out.length, fromP c s, c⟩] else out
def OfQ (l : List Pred) (s : Str) : List SQual := l.foldl (fun out p => (splitP p).foldl (ofStep s) out) []
end Go.Abs
end
section
namespace Go.Abs
theorem yva {α : Type} {f : α → Bool} {a r : List α} {x : α} (ha : ∀ y ∈ a, f y = false) : (a ++ x :: r).findIdx? f = if f x = true then some a.length else (r.findIdx? f).map (· + (a.length + 1)) := by
 induction a with
 | nil => rw [List.nil_append, List.findIdx?_cons]; cases f x <;> simp
 | cons y a ih =>
  rw [List.cons_append, List.findIdx?_cons, ha y (by simp), ih fun z hz => ha z (by simp [hz])]
  cases f x
  ·simp only [Bool.false_eq_true, if_false, Option.map_map, lC]
   congr 1
  ·simp
theorem ywI {α : Type} {f : α → Bool} {l : List α} (h : ∀ y ∈ l, f y = false) : l.findIdx? f = none := by
 rw [List.findIdx?_eq_none_iff]; exact h
def ixQ {α : Type} (f : α → Bool) (l : List α) : Int := match l.findIdx? f with
 | some i => i
 | none => -1
theorem yxo {α : Type} (f : α → Bool) (l : List α) : decide (ixQ f l ≥ 0) = l.any f := by
 unfold ixQ
 cases h : l.findIdx? f with
 | none =>
  have := List.findIdx?_eq_none_iff.1 h
  have : l.any f = false := by rw [List.any_eq_false]; intro y hy; rw [this y hy]; simp
  rw [this]; rfl
 | some i =>
  obtain ⟨hi, h1, _⟩ := List.findIdx?_eq_some_iff_getElem.1 h
  have : l.any f = true := by rw [List.any_eq_true]; exact ⟨l[i], List.getElem_mem hi, h1⟩
  rw [this]; simp
theorem zJ0 {α : Type} {f : α → Bool} {l a r : List α} {x : α} (hl : l = a ++ x :: r) (ha : ∀ y ∈ a, f y = false) (hx : f x = true) : ixQ f l = a.length := by
 unfold ixQ; rw [hl, yva ha, if_pos hx]
theorem zKU {α : Type} {f : α → Bool} {l : List α} (h : ∀ y ∈ l, f y = false) : ixQ f l = -1 := by
 unfold ixQ; rw [ywI h]
variable {E : AEnv} (Z : Sys E)
include Z
theorem yxn (fid : FuncId) (caps : List D) (f : Pred → Bool) (l : List Pred) (hf : ∀ x ∈ l, E.C fid (.agg x.cells :: caps.map .one) (.one (.bool (f x)))) : E.C zzr [.one (.lst (l.map Pred.cells)), .one (.clo fid caps)] (.one (.int .i64 (ixQ f l))) := by
 refine Z.zzr _ _ ⟨bl rfl, ?_⟩
 generalize hR : ixQ f l = R
 simp only [zyl, go_sem, lM]
 intro hlen
 refine zzf l (fun done => ∀ y ∈ done, f y = false) (fun done rest => ⟨[(8, .d (.int .i64 done.length)), (7, .d (.int .i64 l.length)), (0, .d (.lst (l.map Pred.cells))), (1, .d (.clo fid caps))], [], []⟩) ?_ (by simp) ?_ ?_
 ·exact zzc (by simp only [go_sem])
 ·intro done x r hl hI
  have hx := zzA hl
  have hlt := zzi hl
  have hw : IntKind.i64.wrap ((done.length : Int) + 1) = ((done.length + 1 : Nat) : Int) := zze (by omega)
  have hfx := hf x (by rw [hl]; simp)
  simp only [zzF, go_sem, hx, hlt, lM]
  refine zzb hfx ?_
  cases e : f x with
  | true =>
   rw [zJ0 hl hI e] at hR
   simp only [go_sem] at hR ⊢
   exact hR
  | false =>
   simp only [go_sem, hw, lA]
   exact ⟨zzc (by simp only [go_sem, lA]), zyb hI e⟩
 ·intro hI
  rw [zKU hI] at hR
  simp only [zzF, go_sem, lM, ← hR]
theorem zkr (fid : FuncId) (caps : List D) (f : Pred → Bool) (l : List Pred) (hf : ∀ x ∈ l, E.C fid (.agg x.cells :: caps.map .one) (.one (.bool (f x)))) : E.C zzg [.one (.lst (l.map Pred.cells)), .one (.clo fid caps)] (.one (.bool (l.any f))) := by
 have h := yxn Z fid caps f l hf
 refine Z.zzg _ _ ⟨bl rfl, ?_⟩
 rw [← yxo]
 simp only [zz7, go_sem]
 refine zzb h ?_
 simp only [go_sem, ge_iff_le]
theorem yw1 (fid : FuncId) (caps : List D) (f : SVar → Bool) (l : List SVar) (hf : ∀ x ∈ l, E.C fid (.agg x.cells :: caps.map .one) (.one (.bool (f x)))) : E.C zzt [.one (.lst (l.map SVar.cells)), .one (.clo fid caps)] (.one (.int .i64 (ixQ f l))) := by
 refine Z.zzt _ _ ⟨bl rfl, ?_⟩
 generalize hR : ixQ f l = R
 simp only [zyo, go_sem, lM]
 intro hlen
 refine zzf l (fun done => ∀ y ∈ done, f y = false) (fun done rest => ⟨[(8, .d (.int .i64 done.length)), (7, .d (.int .i64 l.length)), (0, .d (.lst (l.map SVar.cells))), (1, .d (.clo fid caps))], [], []⟩) ?_ (by simp) ?_ ?_
 ·exact zzc (by simp only [go_sem])
 ·intro done x r hl hI
  have hx := getD_at (f := SVar.cells) (d := []) hl
  have hlt := zzi hl
  have hw : IntKind.i64.wrap ((done.length : Int) + 1) = ((done.length + 1 : Nat) : Int) := zze (by omega)
  have hfx := hf x (by rw [hl]; simp)
  rw [SVar.cells] at hx hfx
  simp only [zzK, go_sem, hx, hlt, lM]
  refine zzb hfx ?_
  cases e : f x with
  | true =>
   rw [zJ0 hl hI e] at hR
   simp only [go_sem] at hR ⊢
   exact hR
  | false =>
   simp only [go_sem, hw, lA]
   exact ⟨zzc (by simp only [go_sem, lA]), zyb hI e⟩
 ·intro hI
  rw [zKU hI] at hR
  simp only [zzK, go_sem, lM, ← hR]
theorem yyt (fid : FuncId) (caps : List D) (f : SVar → Bool) (l : List SVar) (hf : ∀ x ∈ l, E.C fid (.agg x.cells :: caps.map .one) (.one (.bool (f x)))) : E.C zzp [.one (.lst (l.map SVar.cells)), .one (.clo fid caps)] (.one (.bool (l.any f))) := by
 have h := yw1 Z fid caps f l hf
 refine Z.zzp _ _ ⟨bl rfl, ?_⟩
 rw [← yxo]
 simp only [zyh, go_sem]
 refine zzb h ?_
 simp only [go_sem, ge_iff_le]
end Go.Abs
end
section
namespace Go.Abs
def upperS (s : Str) : Bool := decide (((s.getD 0 0).toNat : Int) ≥ 65) && decide (((s.getD 0 0).toNat : Int) ≤ 90)
def sortOk (s : Str) : Bool := plainS s || (isCore s && upperS s)
def sortE (s : Str) : Int := if sortOk s then 0 else 11
theorem zKp : isCore [] = false := by decide +kernel
theorem yzK {s : Str} (h : isCore s = true) : (0 : Int) < s.length := by
 cases s with
 | nil => rw [zKp] at h; cases h
 | cons c s => simp
def namesE (done : List SVar) : List SVar → Int
 | [] => 0
 | x :: r => if !isCore x.name then 3 else if done.any (fun y => y.name == x.name) then 4 else namesE (done ++ [x]) r
def sortsE (l : List SVar) : Int := if l.all (fun x => sortOk x.sort) then 0 else 11
def chkQ (syms : List SSym) (q : SQual) : Int :=
 if decide ((q.vars.length : Int) < 1) || decide ((q.vars.length : Int) > 4) then 13
 else if (q.vars.getD 0 noVar).name != sV then 6
 else if namesE (q.vars.take 1) (q.vars.drop 1) != 0 then namesE (q.vars.take 1) (q.vars.drop 1)
 else if sortsE q.vars != 0 then sortsE q.vars
 else BoolS ⟨q.vars, syms, []⟩ q.body
theorem zqi : ∀ (r done : List SVar), namesE done r = 0 → Distinct done → Distinct (done ++ r)
 | [], done, _, h => by simpa using h
 | x :: r, done, h, hd => by
  rw [namesE] at h
  split at h
  ·cases h
  split at h
  ·cases h
  rename_i h2
  have := zqi r (done ++ [x]) h ?_
  ·simpa using this
  ·unfold Distinct at hd ⊢
   rw [mA, mC, mN, List.nodup_append]
   refine ⟨hd, by simp, ?_⟩
   intro a ha b hb e
   simp at hb
   subst hb; subst e
   obtain ⟨y, hy, e⟩ := List.mem_map.1 ha
   refine h2 (List.any_eq_true.2 ⟨y, hy, by simpa using e⟩)
theorem yyS {syms : List SSym} {q : SQual} (h : chkQ syms q = 0) : Distinct q.vars ∧ BoolS ⟨q.vars, syms, []⟩ q.body = 0 := by
 unfold chkQ at h
 split at h
 ·cases h
 split at h
 ·cases h
 split at h
 ·rename_i h3; rw [h] at h3; exact absurd h3 (by decide)
 rename_i h3
 split at h
 ·rename_i h4; rw [h] at h4; exact absurd h4 (by decide)
 have h3 : namesE (q.vars.take 1) (q.vars.drop 1) = 0 := by simpa using h3
 refine ⟨?_, h⟩
 have := zqi _ _ h3 ?_
 ·rwa [List.take_append_drop] at this
 ·cases q.vars with
  | nil => simp [Distinct]
  | cons v vs => simp [Distinct]
def varsE (done : List SVar) : List SVar → Int
 | [] => 0
 | x :: r => if x.name != sV && !isCore x.name then 3 else if done.any (fun y => y.name == x.name) then 4 else if sortE x.sort != 0 then sortE x.sort else varsE (done ++ [x]) r
def rightP (l : List SVar) : Int := if decide ((l.length : Int) > 24) then 7 else varsE [] l
theorem yzh : ∀ (r done : List SVar), varsE done r = 0 → Distinct done → (∀ x ∈ done, calledOk 3 x.name = true) → Distinct (done ++ r) ∧ ∀ x ∈ done ++ r, calledOk 3 x.name = true
 | [], done, _, h, hc => by simpa using ⟨h, hc⟩
 | x :: r, done, h, hd, hc => by
  rw [varsE] at h
  split at h
  ·cases h
  rename_i h1
  split at h
  ·cases h
  rename_i h2
  split at h
  ·rename_i h3; rw [h] at h3; exact absurd h3 (by decide)
  have := yzh r (done ++ [x]) h ?_ ?_
  ·simpa using this
  ·unfold Distinct at hd ⊢
   rw [mA, mC, mN, List.nodup_append]
   refine ⟨hd, by simp, ?_⟩
   intro a ha b hb e
   simp at hb
   subst hb; subst e
   obtain ⟨y, hy, e⟩ := List.mem_map.1 ha
   refine h2 (List.any_eq_true.2 ⟨y, hy, by simpa using e⟩)
  ·refine zyb hc ?_
   unfold calledOk
   simp only [Bool.and_eq_true, bne_iff_ne, ne_eq, Bool.not_eq_true', not_and, Bool.not_eq_false] at h1
   by_cases e : x.name = sV
   ·simp [e]
   ·simp [h1 e]
theorem zJj {l : List SVar} (h : rightP l = 0) : Distinct l ∧ ∀ i, i < l.length → calledOk 3 (l.getD i noVar).name = true := by
 unfold rightP at h
 split at h
 ·cases h
 obtain ⟨h1, h2⟩ := yzh l [] h (by simp [Distinct]) (by simp)
 rw [List.nil_append] at h1 h2
 refine ⟨h1, fun i hi => h2 _ ?_⟩
 have e : l.getD i noVar = l[i] := by simp [List.getD_eq_getElem?_getD, hi]
 rw [e]; exact List.getElem_mem hi
theorem zjV {α : Type} {f : α → Bool} {l a r : List α} {x : α} (hl : l = a ++ x :: r) (hx : f x = true) : l.any f = true := by
 rw [hl, List.any_append, List.any_cons, hx]; simp
theorem zwp {α : Type} {f : α → Bool} {l : List α} (h : ∀ x ∈ l, f x = false) : l.any f = false := by
 rw [List.any_eq_false]; intro y hy; rw [h y hy]; simp
theorem ykC {α : Type} {f : α → Bool} {l a r : List α} {x : α} (hl : l = a ++ x :: r) (hx : f x = false) : l.all f = false := by
 rw [hl, List.all_append, List.all_cons, hx]; simp
theorem zVh {α : Type} {f : α → Bool} {l : List α} (h : ∀ x ∈ l, f x = true) : l.all f = true := List.all_eq_true.2 h
variable {E : AEnv} (Z : Sys E)
include Z
theorem zVb (hG : E.G 0 = some (kws.map .str)) (s : Str) : E.C zwG [.one (.str s)] (.one (.int .i64 (sortE s))) := by
 have hc := zjv Z hG s
 refine Z.zwG _ _ ⟨bl rfl, ?_⟩
 have hp : plainS s = (s == [73, 110, 116] || s == [66, 111, 111, 108] || s == [67, 101, 108, 108]) := rfl
 unfold sortE sortOk
 rw [hp]
 simp only [zZR, go_sem]
 cases e1 : (s == [73, 110, 116]) with
 | true => simp only [e1, go_sem]
 | false =>
 simp only [e1, go_sem]
 cases e2 : (s == [66, 111, 111, 108]) with
 | true => simp only [e2, go_sem]
 | false =>
 simp only [e2, go_sem]
 cases e3 : (s == [67, 101, 108, 108]) with
 | true => simp only [e3, go_sem]
 | false =>
 simp only [e3, go_sem]
 refine zzb hc ?_
 cases e4 : isCore s with
 | false => simp only [e4, go_sem, Int.reduceBNe]
 | true =>
  have hpos : ((0 : Int) < s.length) = True := eq_true (yzK e4)
  simp only [e4, go_sem, hpos, Int.toNat_zero, upperS, Int.reduceBNe]
  generalize ((s.getD 0 0).toNat : Int) = c
  have e7 : (decide (c ≥ 65) && decide (c ≤ 90)) = !(decide (c < 65) || decide (c > 90)) := by rw [Bool.eq_iff_iff]; simp
  rw [e7]
  cases (decide (c < 65) || decide (c > 90)) <;> simp only [go_sem]
theorem zqm (s : Str) : E.C zwZ [.one (.str s)] (.one (.int .i64 (sortE s))) := by
 have hc := zwE Z s
 refine Z.zwZ _ _ ⟨bl rfl, ?_⟩
 have hp : plainS s = (s == [73, 110, 116] || s == [66, 111, 111, 108] || s == [67, 101, 108, 108]) := rfl
 unfold sortE sortOk
 rw [hp]
 simp only [zYT, go_sem]
 cases e1 : (s == [73, 110, 116] || s == [66, 111, 111, 108] || s == [67, 101, 108, 108]) with
 | true => simp only [e1, go_sem]
 | false =>
 simp only [e1, go_sem]
 intro hlen
 by_cases h0 : (0 : Int) < s.length
 ·have hpos : ((0 : Int) < s.length) = True := eq_true h0
  have hu : (decide (((s.getD 0 0).toNat : Int) ≥ 65) && decide (((s.getD 0 0).toNat : Int) ≤ 90)) = upperS s := rfl
  simp only [go_sem, hpos, gt_iff_lt, Int.toNat_zero, hu]
  cases e5 : upperS s with
  | false =>
   simp only [go_sem]
   refine ⟨.one (.int .i64 0), ?_⟩
   simp only [go_sem]
  | true =>
   simp only [go_sem]
   refine zzb hc ?_
   cases e4 : isCore s <;> simp only [e4, go_sem, Int.reduceBEq]
 ·have hz : s = [] := by cases s with | nil => rfl | cons c s => simp at h0
  subst hz
  simp only [go_sem, zKp, lN]
  refine ⟨.one (.int .i64 0), ?_⟩
  simp only [go_sem]
theorem zV7 (l : List Str) (s : Str) : E.C zw0 [.one (.lst (l.map fun k => [.str k])), .one (.str s)] (.one (.bool (l.any fun y => y == s))) := by
 refine Z.zw0 _ _ ⟨bl rfl, ?_⟩
 generalize hR : (l.any fun y => y == s) = R
 simp only [zYV, go_sem]
 refine zzf l (fun done => ∀ y ∈ done, (y == s) = false) (fun done rest => ⟨[(5, .d (.int .i64 done.length)), (0, .d (.lst (l.map fun k => [.str k]))), (1, .d (.str s))], [], []⟩) ?_ (by simp) ?_ ?_
 ·exact zzc (by simp only [go_sem])
 ·intro done x r hl hI
  have hx := getD_at (f := fun k : Str => [D.str k]) (d := []) hl
  have hlt := zzi hl
  have hls : (∀ e ∈ l.map fun k => [D.str k], e.length = 1) = True := eq_true (by simp)
  simp only [zkH, go_sem, lM, hls]
  intro hlen
  have hw : IntKind.i64.wrap ((done.length : Int) + 1) = ((done.length + 1 : Nat) : Int) := zze (by omega)
  simp only [go_sem, hx, hlt, hls]
  cases e : (x == s) with
  | true =>
   rw [zjV hl e] at hR
   simp only [go_sem, ← hR]
  | false =>
   simp only [go_sem, hw, lA]
   exact ⟨zzc (by simp only [go_sem, lA]), zyb hI e⟩
 ·intro hI
  rw [zwp hI] at hR
  simp only [zkH, go_sem, lM, ← hR]
end Go.Abs
end
section
namespace Go.Abs
theorem ywc : ∀ {done : List SVar} {x : SVar} {r : List SVar}, varsE done (x :: r) = if x.name != sV && !isCore x.name then 3 else if done.any (fun y => y.name == x.name) then 4 else if sortE x.sort != 0 then sortE x.sort else varsE (done ++ [x]) r := rfl
theorem ywh (l : List SVar) (s : Str) : ((l.map SVar.name).any fun y => y == s) = l.any fun y => y.name == s := by
 rw [List.any_map]; rfl
variable {E : AEnv} (Z : Sys E)
include Z
theorem zQb (l : List SVar) : E.C zjy [.one (.lst (l.map SVar.cells))] (.one (.int .i64 (rightP l))) := by
 refine Z.zjy _ _ ⟨bl rfl, ?_⟩
 generalize hR : rightP l = R
 unfold rightP at hR
 simp only [zXX, go_sem, lM]
 intro hlen
 cases h0 : decide ((l.length : Int) > 24) with
 | true => simp only [h0, go_sem] at hR ⊢; exact hR
 | false =>
 simp only [h0, go_sem] at hR ⊢
 have h24 : l.length ≤ 24 := by simp at h0; omega
 refine zzf l (fun done => ∀ r, l = done ++ r → varsE done r = R) (fun done rest => ⟨[(4, .d (.int .i64 done.length)), (0, .d (.lst (l.map SVar.cells))), (3, .own 3 1 ((done.map SVar.name).map fun k => [.str k]))], [], [(3, true)]⟩) ?_ (fun r h => by rw [List.nil_append] at h; subst h; exact hR) ?_ ?_
 ·exact zwJ 3 3 1 [] [(3, 3)] rfl (by simp) rfl (by simp only [Ent0, go_sem, cN, mN])
 ·intro done x r hl hI
  have hx := getD_at (f := SVar.cells) (d := []) hl
  have hlt := zzi hl
  have hdl : done.length < l.length := by rw [hl]; simp
  have hw : IntKind.i64.wrap ((done.length : Int) + 1) = ((done.length + 1 : Nat) : Int) := zze (by omega)
  have hR := hI _ hl
  rw [ywc] at hR
  have hkn := zV7 Z (done.map SVar.name) x.name
  rw [ywh] at hkn
  have hco := zwE Z x.name
  have hso := zqm Z x.sort
  rw [SVar.cells] at hx
  simp only [zvw, go_sem, lM, hx, hlt, SVar.lens]
  intro _
  have hv : (x.name != sV) = !(x.name == [118]) := rfl
  rw [hv] at hR
  cases e1 : (x.name == [118]) with
  | true =>
   simp only [e1, go_sem, bne] at hR ⊢
   refine ⟨.one (.int .i64 0), ?_⟩
   simp only [go_sem]
   simp only [go_sem, hx, hlt, SVar.lens]
   refine zzb hkn ?_
   simp only [go_sem, hx, hlt, SVar.lens]
   cases e2 : (done.any fun y => y.name == x.name) with
   | true => simp only [e2, go_sem] at hR ⊢; exact hR
   | false =>
   simp only [e2, go_sem, hx, hlt, SVar.lens, lM] at hR ⊢
   refine ⟨⟨by simp, by omega⟩, ?_⟩
   refine zzb hso ?_
   cases e3 : sortOk x.sort with
   | false => simp only [sortE, e3, go_sem, Int.reduceBEq, Int.reduceBNe] at hR ⊢; exact hR
   | true =>
   simp only [sortE, e3, go_sem, hw, lA, Int.reduceBEq, Int.reduceBNe] at hR ⊢
   refine ⟨zzo [(3, 43)] ?_, ?_⟩
   ·simp only [go_sem, cN, mA, mC, mN, lA]
   ·intro r' hr'
    have : r' = r := by rw [hl] at hr'; simpa using hr'.symm
    subst this; exact hR
  | false =>
   simp only [e1, go_sem, bne] at hR ⊢
   refine zzb hco ?_
   cases e4 : isCore x.name with
   | false => simp only [e4, go_sem, Int.reduceBNe] at hR ⊢; exact hR
   | true =>
   simp only [e4, go_sem, Int.reduceBNe] at hR ⊢
   simp only [go_sem, hx, hlt, SVar.lens]
   refine zzb hkn ?_
   simp only [go_sem, hx, hlt, SVar.lens]
   cases e2 : (done.any fun y => y.name == x.name) with
   | true => simp only [e2, go_sem] at hR ⊢; exact hR
   | false =>
   simp only [e2, go_sem, hx, hlt, SVar.lens, lM] at hR ⊢
   refine ⟨⟨by simp, by omega⟩, ?_⟩
   refine zzb hso ?_
   cases e3 : sortOk x.sort with
   | false => simp only [sortE, e3, go_sem, Int.reduceBEq, Int.reduceBNe] at hR ⊢; exact hR
   | true =>
   simp only [sortE, e3, go_sem, hw, lA, Int.reduceBEq, Int.reduceBNe] at hR ⊢
   refine ⟨zzo [(3, 43)] ?_, ?_⟩
   ·simp only [go_sem, cN, mA, mC, mN, lA]
   ·intro r' hr'
    have : r' = r := by rw [hl] at hr'; simpa using hr'.symm
    subst this; exact hR
 ·intro hI
  have hR := hI [] (by simp)
  simp only [zvw, go_sem, lM, ← hR, varsE]
theorem yzX (l : List SVar) : E.C zYs [.agg [.lst (l.map SVar.cells), .lst [], .lst []]] (.one (.int .i64 (rightP l))) := by
 have h := zQb Z l
 have h1 : E.C zqN [.one (.lst [])] (.one (.int .i64 0)) := by
  refine Z.zqN _ _ ⟨bl rfl, ?_⟩
  simp only [zXW, go_sem, lN, nZ]
  refine zzf ([] : List Nat) (fun _ => True) (fun done rest => ⟨[(4, .d (.int .i64 0)), (0, .d (.lst []))], [], []⟩) ?_ trivial ?_ ?_
  ·exact zzc (by simp only [go_sem])
  ·intro done x r hl; cases done <;> cases hl
  ·intro _
   simp only [zZf, go_sem, lN, nZ]
 have h2 : E.C zv6 [.one (.lst [])] (.one (.int .i64 0)) := by
  refine Z.zv6 _ _ ⟨bl rfl, ?_⟩
  simp only [zYU, go_sem, lN, nZ]
  refine zzf ([] : List Nat) (fun _ => True) (fun done rest => ⟨[(4, .d (.int .i64 0)), (0, .d (.lst []))], [], []⟩) ?_ trivial ?_ ?_
  ·exact zzc (by simp only [go_sem])
  ·intro done x r hl; cases done <;> cases hl
  ·intro _
   simp only [zj5, go_sem, lN, nZ]
 refine Z.zYs _ _ ⟨bl rfl, ?_⟩
 simp only [zW8, go_sem]
 refine zzb h ?_
 cases e : (rightP l == 0) with
 | true =>
  have : rightP l = 0 := by simpa using e
  simp only [go_sem, e]
  refine zzb h1 ?_
  simp only [go_sem, Int.reduceBEq]
  refine zzb h2 ?_
  simp only [go_sem, this]
 | false => simp only [go_sem, e]
theorem zVS (h : SHole) : E.C zvZ [.agg h.cells] (.one (.bool (rightP h.params == 0))) := by
 have h1 := yzX Z h.params
 refine Z.zvZ _ _ ⟨bl rfl, ?_⟩
 simp only [zYI, go_sem, SHole.cells]
 refine zzb h1 ?_
 simp only [go_sem]
theorem zq2 (y x : SVar) : E.C zzT [.agg y.cells, .one (.ref x.cells)] (.one (.bool (y.name == x.name))) := by
 refine Z.zzT _ _ ⟨bl rfl, ?_⟩
 simp only [zkg, go_sem, SVar.cells]
end Go.Abs
end
section
namespace Go.Abs
theorem zKs {done : List SVar} {x : SVar} {r : List SVar} : namesE done (x :: r) = if !isCore x.name then 3 else if done.any (fun y => y.name == x.name) then 4 else namesE (done ++ [x]) r := rfl
theorem ykt {α : Type} {l a r : List α} {x : α} (hl : l = a ++ x :: r) : l.take a.length = a := by rw [hl]; simp
variable {E : AEnv} (Z : Sys E)
include Z
theorem zZ6 (hG : E.G 0 = some (kws.map .str)) (syms : List SSym) (q : SQual) (hb : q.vars.length ≤ 1000 → E.C zyO [.agg (SEnv.cells ⟨q.vars, syms, []⟩), .agg q.body.cells] (.one (.int .i64 (BoolS ⟨q.vars, syms, []⟩ q.body)))) : E.C zzG [.one (.lst (syms.map SSym.cells)), .agg q.cells] (.one (.int .i64 (chkQ syms q))) := by
 refine Z.zzG _ _ ⟨bl rfl, ?_⟩
 obtain ⟨qn, vs, p⟩ := q
 generalize hR : chkQ syms ⟨qn, vs, p⟩ = R
 unfold chkQ at hR
 simp only [zvf, go_sem, SQual.cells, SEnv.cells, Pred.zzd p, lM] at hb hR ⊢
 intro hlen
 cases h0 : (decide ((vs.length : Int) < 1) || decide ((vs.length : Int) > 4)) with
 | true => simp only [h0, go_sem] at hR ⊢; exact fun _ => hR
 | false =>
 simp only [h0, go_sem] at hR ⊢
 have h14 : 1 ≤ vs.length ∧ vs.length ≤ 4 := by simp at h0; omega
 obtain ⟨v, rest, rfl⟩ : ∃ v rest, vs = v :: rest := by
  cases vs with
  | nil => simp at h14
  | cons v vs => exact ⟨v, vs, rfl⟩
 have hlr : rest.length < 4 := by simp at h14; omega
 have hvc : v.cells = [.str v.name, .str v.sort] := rfl
 simp only [go_sem, mC, lC, hvc] at hR ⊢
 intro _
 have hpos : ((0 : Int) < ((rest.length + 1 : Nat) : Int)) = True := eq_true (by omega)
 have hone : ((1 : Int) ≤ ((rest.length + 1 : Nat) : Int)) = True := eq_true (by omega)
 have hsv : (v.name != sV) = !(v.name == [118]) := rfl
 simp only [go_sem, hpos, hone] at hR ⊢
 rw [hsv] at hR
 cases h1 : (v.name == [118]) with
 | false => simp only [h1, go_sem] at hR ⊢; exact hR
 | true =>
 simp only [h1, go_sem] at hR ⊢
 intro _
 refine zzn fun K hK => ?_
 refine zzf rest (fun done => ∀ r, rest = done ++ r → (if namesE (v :: done) r != 0 then namesE (v :: done) r else if sortsE (v :: rest) != 0 then sortsE (v :: rest) else BoolS ⟨v :: rest, syms, []⟩ p) = R) (fun done _ => ⟨[(28, .d (.int .i64 rest.length)), (29, .d (.int .i64 done.length)), (27, .d (.lst (rest.map SVar.cells))), (0, .d (.lst (syms.map SSym.cells))), (3, .ptr 3 0)],
   [(3, [.d (.str qn), .d (.lst (v.cells :: rest.map SVar.cells)), .d (.int .i64 p.op), .d (.str p.name), .d (.int .i64 p.n), .d (.lst (p.kids.map Pred.cells))])], []⟩) ?_ (fun r h => by rw [List.nil_append] at h; subst h; exact hR) ?_ ?_
 ·exact zzc (by simp only [go_sem, oS, hvc])
 ·intro done x r hl hI
  have hR := hI _ hl
  rw [zKs] at hR
  have hx := getD_at (f := SVar.cells) (d := []) hl
  have hlt := zzi hl
  have hco := zjv Z hG x.name
  have hdl : done.length < rest.length := by rw [hl]; simp
  have hw : IntKind.i64.wrap ((done.length : Int) + 1) = ((done.length + 1 : Nat) : Int) := zze (by omega)
  have htk : (rest.map SVar.cells).take done.length = done.map SVar.cells := by rw [← List.map_take, ykt hl]
  have hle : ((done.length + 1 : Nat) : Int) ≤ ((rest.length + 1 : Nat) : Int) := by omega
  have hany := yyt Z zzT [.ref x.cells] (fun y => y.name == x.name) (v :: done) fun y _ => zq2 Z y x
  rw [SVar.cells] at hx
  simp only [zxc, go_sem, lM, hx, hlt, SVar.lens]
  refine zzb hco ?_
  cases e1 : isCore x.name with
  | false => simp only [e1, go_sem, Int.reduceBNe, hK] at hR ⊢; exact hR
  | true =>
  simp only [e1, go_sem, Int.reduceBNe, hw, lM, lC] at hR ⊢
  refine ⟨⟨hle, fun e he => ?_⟩, ?_⟩
  ·rcases List.mem_cons.1 he with rfl | he
   ·rfl
   ·obtain ⟨y, _, rfl⟩ := List.mem_map.1 he; rfl
  rw [htk]
  refine zXs (cvs := [.one (.lst ((v :: done).map SVar.cells)), .one (.clo zzT [.ref x.cells])]) rfl rfl rfl hany ?_
  cases e2 : ((v :: done).any fun y => y.name == x.name) with
  | true => simp only [e2, go_sem, hK] at hR ⊢; exact hR
  | false =>
  simp only [e2, go_sem, hw] at hR ⊢
  refine ⟨zzc (by simp only [go_sem, lA, oS]), ?_⟩
  intro r' hr'
  have : r' = r := by rw [hl] at hr'; simpa using hr'.symm
  subst this; exact hR
 ·intro hI
  have hR := hI [] (by simp)
  rw [namesE] at hR
  have hso : ∀ y : SVar, E.C zwG [.one (.str y.sort)] (.one (.int .i64 (sortE y.sort))) := fun y => zVb Z hG y.sort
  simp only [zxc, go_sem, lM, Int.reduceBNe, hK, hvc] at hR ⊢
  intro _
  clear hK K hI
  refine zzn fun K hK => ?_
  obtain ⟨vr, hvr⟩ : ∃ vr, vr = v :: rest := ⟨_, rfl⟩
  rw [← hvr] at hR hb h14
  have hvm : vr.map SVar.cells = [.str v.name, .str v.sort] :: rest.map SVar.cells := by rw [hvr]; rfl
  have hvl : ((vr.length : Nat) : Int) = ((rest.length + 1 : Nat) : Int) := by rw [hvr]; rfl
  refine zzf vr (fun done => ∀ y ∈ done, sortOk y.sort = true) (fun done _ => ⟨[(48, .d (.int .i64 vr.length)), (49, .d (.int .i64 done.length)), (47, .d (.lst (vr.map SVar.cells))), (0, .d (.lst (syms.map SSym.cells))), (3, .ptr 3 0)],
   [(3, [.d (.str qn), .d (.lst (vr.map SVar.cells)), .d (.int .i64 p.op), .d (.str p.name), .d (.int .i64 p.n), .d (.lst (p.kids.map Pred.cells))])], []⟩) ?_ (by simp) ?_ ?_
  ·exact zzc (by simp only [go_sem, oS, hvm, hvl])
  ·intro done x r hl hI
   have hx := getD_at (f := SVar.cells) (d := []) hl
   have hlt := zzi hl
   have hdl : done.length < vr.length := by rw [hl]; simp
   have hsx := hso x
   have hw : IntKind.i64.wrap ((done.length : Int) + 1) = ((done.length + 1 : Nat) : Int) := zze (by omega)
   rw [SVar.cells] at hx
   simp only [zxb, go_sem, lM, hx, hlt, SVar.lens]
   refine zzb hsx ?_
   cases e1 : sortOk x.sort with
   | false =>
    have hss : sortsE vr = 11 := by unfold sortsE; rw [ykC hl e1]; rfl
    rw [hss] at hR
    simp only [e1, go_sem, sortE, Int.reduceBNe, hK] at hR ⊢; exact hR
   | true =>
    simp only [e1, go_sem, sortE, Int.reduceBNe, hw]
    exact ⟨zzc (by simp only [go_sem, lA, oS]), zyb hI e1⟩
  ·intro hI
   have hss : sortsE vr = 0 := by unfold sortsE; rw [zVh hI]; rfl
   rw [hss] at hR
   have hb := hb (by omega)
   simp only [zxb, go_sem, lM, Int.reduceBNe, hK] at hR ⊢
   refine zzb hb ?_
   simp only [go_sem, hR]
theorem zJd (syms : List SSym) (q : SQual) : E.C zv9 [.one (.lst (syms.map SSym.cells)), .agg q.cells] (.one (.int .i64 (chkQ syms q))) := by
 have hb := zQi Z ⟨q.vars, syms, []⟩ q.body
 refine Z.zv9 _ _ ⟨bl rfl, ?_⟩
 obtain ⟨qn, vs, p⟩ := q
 generalize hR : chkQ syms ⟨qn, vs, p⟩ = R
 unfold chkQ at hR
 simp only [zY2, go_sem, SQual.cells, SEnv.cells, Pred.zzd p, lM] at hb hR ⊢
 intro hlen
 cases h0 : (decide ((vs.length : Int) < 1) || decide ((vs.length : Int) > 4)) with
 | true => simp only [h0, go_sem] at hR ⊢; exact fun _ => hR
 | false =>
 simp only [h0, go_sem] at hR ⊢
 have h14 : 1 ≤ vs.length ∧ vs.length ≤ 4 := by simp at h0; omega
 obtain ⟨v, rest, rfl⟩ : ∃ v rest, vs = v :: rest := by
  cases vs with
  | nil => simp at h14
  | cons v vs => exact ⟨v, vs, rfl⟩
 have hlr : rest.length < 4 := by simp at h14; omega
 have hvc : v.cells = [.str v.name, .str v.sort] := rfl
 simp only [go_sem, mC, lC, hvc] at hR ⊢
 intro _
 have hpos : ((0 : Int) < ((rest.length + 1 : Nat) : Int)) = True := eq_true (by omega)
 have hsv : (v.name != sV) = !(v.name == [118]) := rfl
 simp only [go_sem, hpos] at hR ⊢
 rw [hsv] at hR
 cases h1 : (v.name == [118]) with
 | false => simp only [h1, go_sem] at hR ⊢; exact hR
 | true =>
 simp only [h1, go_sem] at hR ⊢
 have hvm : [.str v.name, .str v.sort] :: rest.map SVar.cells = (v :: rest).map SVar.cells := rfl
 have hvl : ((rest.length + 1 : Nat) : Int) = (((v :: rest).length : Nat) : Int) := rfl
 have hat : ∀ a x r, rest = a ++ x :: r → v :: rest = (v :: a) ++ x :: r := fun a x r h => by rw [h]; rfl
 obtain ⟨vr, hvr⟩ : ∃ vr, vr = v :: rest := ⟨_, rfl⟩
 rw [← hvr] at hR hb h14 hvm hvl hat
 have hc6 : ∀ y : SVar, E.C zwZ [.one (.str y.sort)] (.one (.int .i64 (sortE y.sort))) := fun y => zqm Z y.sort
 refine zzn fun K hK => ?_
 refine zzf rest (fun done => ∀ r, rest = done ++ r → (if namesE (v :: done) r != 0 then namesE (v :: done) r else if sortsE vr != 0 then sortsE vr else BoolS ⟨vr, syms, []⟩ p) = R) (fun done _ => ⟨[(5, .d (.int .i64 (v :: done).length)), (0, .d (.lst (syms.map SSym.cells))), (3, .ptr 3 0)],
   [(3, [.d (.str qn), .d (.lst (vr.map SVar.cells)), .d (.int .i64 p.op), .d (.str p.name), .d (.int .i64 p.n), .d (.lst (p.kids.map Pred.cells))])], []⟩) ?_ (fun r h => by rw [List.nil_append] at h; subst h; exact hR) ?_ ?_
 ·exact zzc (by simp only [go_sem, oS, ← hvm, lC, lN])
 ·intro done x r hl hI
  have hR := hI _ hl
  rw [zKs] at hR
  have hl' := hat _ _ _ hl
  have hx := getD_at (f := SVar.cells) (d := []) hl'
  have hlt := zzi hl'
  have hco := zwE Z x.name
  have hap : (v :: (done ++ [x])).length = (v :: done).length + 1 := by simp
  have hsub : v :: (done ++ [x]) = (v :: done) ++ [x] := rfl
  have hdn : ∀ r', rest = done ++ [x] ++ r' → r' = r := fun r' hr' => by rw [hl] at hr'; simpa using hr'.symm
  have hlv : ((vr.length : Nat) : Int) ≤ 4 := by omega
  rw [hap]
  rw [hsub] at *
  obtain ⟨dn, hdn'⟩ : ∃ dn, dn = v :: done := ⟨_, rfl⟩
  rw [← hdn'] at hl' hx hlt hR ⊢
  have hw : IntKind.i64.wrap ((dn.length : Int) + 1) = ((dn.length + 1 : Nat) : Int) := zze (by omega)
  have hxx := hx
  rw [SVar.cells] at hx
  simp only [zkO, go_sem, lM, hx, hlt, SVar.lens]
  intro _
  refine zzb hco ?_
  cases e1 : isCore x.name with
  | false => simp only [e1, go_sem, Int.reduceBNe, hK] at hR ⊢; exact hR
  | true =>
  simp only [e1, go_sem, Int.reduceBNe] at hR ⊢
  refine zzn fun K2 hK2 => ?_
  refine zzf dn (fun d => ∀ y ∈ d, (y.name == x.name) = false) (fun d _ => ⟨[(6, .d (.int .i64 d.length)), (5, .d (.int .i64 dn.length)), (0, .d (.lst (syms.map SSym.cells))), (3, .ptr 3 0)],
   [(3, [.d (.str qn), .d (.lst (vr.map SVar.cells)), .d (.int .i64 p.op), .d (.str p.name), .d (.int .i64 p.n), .d (.lst (p.kids.map Pred.cells))])], []⟩) ?_ (by simp) ?_ ?_
  ·exact zzc (by simp only [go_sem, oS])
  ·intro d y r2 hl2 hI2
   have hl3 : vr = d ++ y :: (r2 ++ x :: r) := by rw [hl', hl2]; simp
   have hy := getD_at (f := SVar.cells) (d := []) hl3
   have hlt2 := zzi hl2
   have hlt3 := zzi hl3
   have hdl : d.length < dn.length := by rw [hl2]; simp
   have hw2 : IntKind.i64.wrap ((d.length : Int) + 1) = ((d.length + 1 : Nat) : Int) := zze (by omega)
   rw [SVar.cells] at hy
   simp only [zkN, go_sem, lM, hx, hy, hlt, hlt2, hlt3, SVar.lens]
   cases e2 : (y.name == x.name) with
   | true =>
    rw [zjV hl2 e2] at hR
    simp only [e2, go_sem, hK2, hK] at hR ⊢
    exact hR
   | false =>
    simp only [e2, go_sem, hw2]
    exact ⟨zzc (by simp only [go_sem, lA, oS]), zyb hI2 e2⟩
  ·intro hI2
   rw [zwp hI2] at hR
   simp only [zkN, go_sem, hK2, hw] at hR ⊢
   refine ⟨zzc (by simp only [go_sem, oS]), ?_⟩
   intro r' hr'
   rw [hdn r' hr']
   exact hR
 ·intro hI
  have hR := hI [] (by simp)
  rw [namesE] at hR
  have hge : decide (((rest.length + 1 : Nat) : Int) < (vr.length : Int)) = false := by rw [hvl]; simp
  simp only [zkO, go_sem, lM, lC, hge, Int.reduceBNe] at hR ⊢
  intro _
  simp only [go_sem, hK] at hR ⊢
  clear hK K hI
  refine zzn fun K hK => ?_
  refine zzf vr (fun done => ∀ y ∈ done, sortOk y.sort = true) (fun done _ => ⟨[(7, .d (.int .i64 done.length)), (0, .d (.lst (syms.map SSym.cells))), (3, .ptr 3 0)],
   [(3, [.d (.str qn), .d (.lst (vr.map SVar.cells)), .d (.int .i64 p.op), .d (.str p.name), .d (.int .i64 p.n), .d (.lst (p.kids.map Pred.cells))])], []⟩) ?_ (by simp) ?_ ?_
  ·exact zzc (by simp only [go_sem, oS])
  ·intro done x r hl hI
   have hx := getD_at (f := SVar.cells) (d := []) hl
   have hlt := zzi hl
   have hdl : done.length < vr.length := by rw [hl]; simp
   have hsx := zqm Z x.sort
   have hw : IntKind.i64.wrap ((done.length : Int) + 1) = ((done.length + 1 : Nat) : Int) := zze (by omega)
   rw [SVar.cells] at hx
   simp only [zkM, go_sem, lM, hx, hlt, SVar.lens]
   intro _
   refine zzb hsx ?_
   cases e1 : sortOk x.sort with
   | false =>
    have hss : sortsE vr = 11 := by unfold sortsE; rw [ykC hl e1]; rfl
    rw [hss] at hR
    simp only [e1, go_sem, sortE, Int.reduceBNe, hK] at hR ⊢; exact hR
   | true =>
    simp only [e1, go_sem, sortE, Int.reduceBNe, hw]
    exact ⟨zzc (by simp only [go_sem, lA, oS]), zyb hI e1⟩
  ·intro hI
   have hss : sortsE vr = 0 := by unfold sortsE; rw [zVh hI]; rfl
   rw [hss] at hR
   simp only [zkM, go_sem, lM, Int.reduceBNe, hK] at hR ⊢
   intro _
   refine zzb hb ?_
   simp only [go_sem, hR]
end Go.Abs
end
section
namespace Go.Abs
def It45 (E : AEnv) : Prop := ∀ (q : SQual) (h : SHole), q.vars.length < 1048576 → h.params.length ≤ 1048576 → 1 ≤ h.params.length → 1 ≤ q.vars.length → E.It zzH [.ref h.cells, .ref q.cells] (chY h.params (chI h.params (q.vars.drop 1) [0]))
theorem SVar.len2 (v : SVar) : v.cells = [.str v.name, .str v.sort] := rfl
theorem zKn {q : SQual} {h : SHole} (h1 : ((q.vars.length : Int) == 0 || (h.params.length : Int) == 0 || !((q.vars.getD 0 noVar).sort == (h.params.getD 0 noVar).sort)) = false) : instS q h = (chI h.params (q.vars.drop 1) [0]).map fun l => subAll (q.vars.map SVar.name) (byOf h.params l) q.body := by
 unfold instS; rw [h1]; rfl
variable {E : AEnv} (Z : Sys E)
include Z
theorem zq4 (q : SQual) (h : SHole) : E.C zym [.agg q.cells, .agg h.cells] (.one (.clo zzH [.ref h.cells, .ref q.cells])) := by
 refine Z.zym _ _ ⟨bl rfl, ?_⟩
 simp only [zkj, go_sem, SQual.cells, SHole.cells, Pred.zzd q.body]
theorem zv2 (hIt : It45 E) (q : SQual) (h : SHole) (hv : q.vars.length < 1048576) (hp : h.params.length ≤ 1048576) (ht : Tame q.body) (hn : h.params.length ^ (q.vars.length - 1) ≤ 1073741824) : E.C zzC [.agg q.cells, .agg h.cells] (.one (.lst ((instS q h).map Pred.cells))) := by
 have hch := zq4 Z q h
 have hsub := fun (ns : List Str) (l : List Nat) => zXk Z ns (byOf h.params l) (fun b hb => by
  unfold byOf at hb
  obtain ⟨k, _, rfl⟩ := List.mem_map.1 hb
  intro y hy
  rw [pv_q, Pred.zZ2] at hy
  simp [Pred.pre.pres] at hy
  subst hy
  simp [Pred.kids, Small]) q.body ht
 have hlenI := zVQ q h
 refine Z.zzC _ _ ⟨bl rfl, ?_⟩
 have hIt := hIt q h hv hp
 obtain ⟨qn, vs, p⟩ := q
 obtain ⟨hn', ps⟩ := h
 generalize hR : instS ⟨qn, vs, p⟩ ⟨hn', ps⟩ = R at *
 simp only [zvT, go_sem, SQual.cells, SHole.cells, Pred.zzd p, lM] at hch hsub hIt ⊢
 cases vs with
 | nil =>
  have : R = [] := by rw [← hR]; rfl
  subst this
  have hgn : ((List.map SVar.cells []).getD 0 [] : List D) = [] := rfl
  cases ps with
  | nil => simp only [go_sem, hgn, SVar.len2, lN, nZ, Int.reduceBEq, List.drop_nil]
  | cons w ps =>
   have hg2 : ((w :: ps).map SVar.cells).getD 0 [] = [.str w.name, .str w.sort] := rfl
   simp only [go_sem, hgn, hg2, SVar.len2, lN, nZ, Int.reduceBEq, List.drop_nil]
 | cons v vs =>
 cases ps with
 | nil =>
  have : R = [] := by rw [← hR]; unfold instS; rw [if_pos (by simp)]
  subst this
  have hz : ((((v :: vs).length : Nat) : Int) == 0) = false := by simp; omega
  have hgn : ((List.map SVar.cells []).getD 0 [] : List D) = [] := rfl
  have hg : ((v :: vs).map SVar.cells).getD 0 [] = [.str v.name, .str v.sort] := rfl
  simp only [go_sem, hgn, hg, SVar.len2, lN, nZ, Int.reduceBEq, hz, List.drop_nil]
 | cons w ps =>
 have hz : ((((v :: vs).length : Nat) : Int) == 0) = false := by simp; omega
 have hz2 : ((((w :: ps).length : Nat) : Int) == 0) = false := by simp; omega
 have hpos : ((0 : Int) < (((v :: vs).length : Nat) : Int)) = True := eq_true (by simp)
 have hpos2 : ((0 : Int) < (((w :: ps).length : Nat) : Int)) = True := eq_true (by simp)
 have hg : ((v :: vs).map SVar.cells).getD 0 [] = [.str v.name, .str v.sort] := rfl
 have hg2 : ((w :: ps).map SVar.cells).getD 0 [] = [.str w.name, .str w.sort] := rfl
 have hIt := hIt (by simp) (by simp)
 obtain ⟨vr, hvr⟩ : ∃ vr, vr = v :: vs := ⟨_, rfl⟩
 obtain ⟨pr, hpr⟩ : ∃ pr, pr = w :: ps := ⟨_, rfl⟩
 rw [← hvr] at hz hpos hg hIt hR hch hlenI hn hv ⊢
 rw [← hpr] at hz2 hpos2 hg2 hIt hR hch hlenI hn hp hsub ⊢
 simp only [go_sem, hz, hz2, hpos, hpos2, hg, hg2]
 cases h1 : (v.sort == w.sort) with
 | false =>
  have : R = [] := by rw [← hR]; unfold instS; rw [if_pos (by simp [hvr, hpr, h1])]
  subst this
  simp only [h1, go_sem, mN]
 | true =>
 have hRR : R = (chI pr (vr.drop 1) [0]).map fun l => subAll (vr.map SVar.name) (byOf pr l) p := by rw [← hR]; exact zKn (by show ((vr.length : Int) == 0 || (pr.length : Int) == 0 || !((vr.getD 0 noVar).sort == (pr.getD 0 noVar).sort)) = false; rw [hz, hz2, hvr, hpr]; simp [h1])
 simp only [h1, go_sem]
 intro hlv
 have hv : vr.length < 1048576 := hv
 have hn : pr.length ^ (vr.length - 1) ≤ 1073741824 := hn
 have hlenI : R.length ≤ pr.length ^ (vr.length - 1) := hlenI
 refine zzn fun K hK => ?_
 refine zzf vr (fun _ => True) (fun done _ => ⟨[(35, .d (.int .i64 vr.length)), (36, .d (.int .i64 done.length)), (34, .d (.lst (vr.map SVar.cells))), (2, .ptr 2 0), (3, .ptr 3 0), (5, .ptr 5 0)],
  [(5, [.own 5 1 ((done.map SVar.name).map fun k => [.str k])]), (3, [.d (.str hn'), .d (.lst (pr.map SVar.cells))]), (2, [.d (.str qn), .d (.lst (vr.map SVar.cells)), .d (.int .i64 p.op), .d (.str p.name), .d (.int .i64 p.n), .d (.lst (p.kids.map Pred.cells))])], [(5, true)]⟩) ?_ trivial ?_ ?_
 ·exact zkx 5 0 5 1 _ [] [(5, 5)] rfl rfl (by simp) rfl (by simp only [Ent0, go_sem, cN, oS, mN])
 ·intro done x r hl _
  have hx := getD_at (f := SVar.cells) (d := []) hl
  have hlt := zzi hl
  have hdl : done.length < vr.length := by rw [hl]; simp
  have hw : IntKind.i64.wrap ((done.length : Int) + 1) = ((done.length + 1 : Nat) : Int) := zze (by omega)
  rw [SVar.cells] at hx
  simp only [zxF, go_sem, lM, hx, hlt, SVar.lens, hw]
  refine ⟨⟨by simp, by omega, by omega⟩, zzo [(5, 44)] ?_⟩
  simp only [go_sem, cN, oS, mA, mC, mN, lA]
 ·intro _
  simp only [zxF, go_sem, lM, hK]
  refine zzb hch ?_
  simp only [go_sem]
  refine ykO hIt (fun _ => True) (fun a => ⟨[(8, .ptr 8 0), (2, .ptr 2 0), (3, .ptr 3 0), (5, .ptr 5 0)],
   [(8, [.own 8 4 ((R.take a.length).map Pred.cells)]), (5, [.own 5 1 ((vr.map SVar.name).map fun k => [.str k])]), (3, [.d (.str hn'), .d (.lst (pr.map SVar.cells))]), (2, [.d (.str qn), .d (.lst (vr.map SVar.cells)), .d (.int .i64 p.op), .d (.str p.name), .d (.int .i64 p.n), .d (.lst (p.kids.map Pred.cells))])], [(8, true), (5, true)]⟩) ?_ trivial ?_ ?_
  ·exact zkx 8 0 8 4 _ [] [(8, 8), (5, 5)] rfl rfl (by simp) rfl (by simp only [Ent0, go_sem, cN, oS, List.take_zero, mN, lN]; rfl)
  ·intro a x b hx _
   obtain ⟨ra, row, rb, hrow, rfl, rfl⟩ : ∃ ra row rb, chI pr (vr.drop 1) [0] = ra ++ row :: rb ∧ a = chY pr ra ∧ x = [.one (.lst ((byOf pr row).map Pred.cells))] := by
    unfold chY at hx
    obtain ⟨ra, r2, h1, h2, h3⟩ := List.map_eq_append_iff.1 hx
    obtain ⟨row, rb, h4, h5, h6⟩ := List.map_eq_cons_iff.1 h3
    exact ⟨ra, row, rb, by rw [h1, h4], h2.symm, h5.symm⟩
   refine ⟨rfl, ?_⟩
   have hRl : R = ra.map (fun l => subAll (vr.map SVar.name) (byOf pr l) p) ++ subAll (vr.map SVar.name) (byOf pr row) p :: rb.map (fun l => subAll (vr.map SVar.name) (byOf pr l) p) := by rw [hRR, hrow, mA, mC]
   have hcl : (chY pr ra).length = ra.length := by simp [chY]
   have hcl2 : (chY pr ra ++ [[CV.one (.lst ((byOf pr row).map Pred.cells))]]).length = ra.length + 1 := by simp [chY]
   have ht1 : R.take ra.length = ra.map (fun l => subAll (vr.map SVar.name) (byOf pr l) p) := by rw [hRl]; simp
   have ht2 : R.take (ra.length + 1) = ra.map (fun l => subAll (vr.map SVar.name) (byOf pr l) p) ++ [subAll (vr.map SVar.name) (byOf pr row) p] := by rw [hRl]; simp [List.take_append, List.take_of_length_le]
   have hlr : ra.length + 1 ≤ 1073741824 := by
    have := congrArg List.length hRl
    simp at this
    omega
   rw [hcl, hcl2, ht1, ht2]
   have hsub := hsub (vr.map SVar.name) row
   generalize byOf pr row = by' at *
   generalize ho : ra.map (fun l => subAll (vr.map SVar.name) (byOf pr l) p) = outs at *
   have hol : outs.length = ra.length := by rw [← ho]; simp
   generalize subAll (vr.map SVar.name) by' p = res at *
   simp only [zkh, zki, go_sem]
   refine zzb hsub ?_
   rw [Pred.zzd res]
   simp only [go_sem]
   refine ⟨⟨by omega, by omega⟩, ?_⟩
   and_intros
   all_goals
    refine zzo [(8, 58), (5, 5)] ?_
    simp only [go_sem, cN, oS, mA, mC, mN, Pred.zzd res]
    rfl
  ·intro _
   have hcl : (chY pr (chI pr (vr.drop 1) [0])).length = R.length := by rw [hRR]; simp [chY]
   rw [hcl, List.take_length]
   simp only [go_sem]
end Go.Abs
end
section
namespace Go.Abs
def ncell (n : Nat) : List D := [.int .i64 (n : Int)]
theorem zqI (l : List Nat) : (∀ e ∈ l.map ncell, e.length = 1) = True := zxO (f := ncell) (fun _ => rfl) l
def chStep (ps : List SVar) (v : SVar) (rem : List SVar) (l : List Nat) (k : Nat) : List (List Nat) := if l.contains k || !((ps.getD k noVar).sort == v.sort) then [] else chI ps rem (l ++ [k])
theorem zW4 (ps : List SVar) (v : SVar) (rem : List SVar) (l : List Nat) : chI ps (v :: rem) l = (List.range' 1 (ps.length - 1)).flatMap (chStep ps v rem l) := rfl
theorem natBeq (a b : Nat) : (((a : Int) == (b : Int))) = (a == b) := by rw [Bool.eq_iff_iff]; simp; omega
def subOf (q : SQual) (ps : List SVar) (l : List Nat) : Pred := subAll (q.vars.map SVar.name) (byOf ps l) q.body
theorem yzc {α β : Type} {f : α → β} {l : List α} {i : Nat} {d : β} {e : α} (h : i < l.length) : (l.map f).getD i d = f (l.getD i e) := by
 simp [List.getD_eq_getElem?_getD, h]
theorem zJw {st st1 : St} (k t sz : Nat) (es : List (List D)) (k2 t2 sz2 : Nat) (es2 : List (List D)) (mp : TMap) (h1 : getS st.slots k = .full es) (h2 : ∀ e ∈ es, e.length = sz) (h3 : getT st.tk t = none)
  (g1 : getS ((k, .own t sz es) :: st.slots) k2 = .full es2) (g2 : ∀ e ∈ es2, e.length = sz2) (g3 : getT ((t, true) :: st.tk) t2 = none)
  (h : Ent0 mp { st with slots := (k2, .own t2 sz2 es2) :: (k, .own t sz es) :: st.slots, tk := (t2, true) :: (t, true) :: st.tk } st1) : Ent st st1 := ⟨[(.s k, t, sz), (.s k2, t2, sz2)], mp, _, ⟨_, ⟨es, h1, h2, h3, rfl⟩, _, ⟨es2, g1, g2, g3, rfl⟩, rfl⟩, h⟩
theorem yxQ {n : Nat} {a r : List Nat} {x : Nat} (h : List.range' 1 n = a ++ x :: r) : x = 1 + a.length ∧ a.length < n := by
 have h1 := congrArg (fun l => l[a.length]?) h
 have h2 := congrArg List.length h
 simp at h2
 have h3 : a.length < n := by omega
 simp [List.getElem?_range', h3] at h1
 exact ⟨h1.symm, h3⟩
variable {E : AEnv} (Z : Sys E)
include Z
theorem zK5 (l : List Nat) (n : Nat) : E.C zkw [.one (.lst (l.map ncell)), .one (.int .i64 n)] (.one (.bool (l.contains n))) := by
 refine Z.zkw _ _ ⟨bl rfl, ?_⟩
 have hany : l.contains n = l.any fun y => y == n := by rw [List.contains_eq_any_beq]; congr 1; funext y; rw [Bool.eq_iff_iff]; simp; exact eq_comm
 rw [hany]
 generalize hR : (l.any fun y => y == n) = R
 simp only [zZQ, go_sem]
 refine zzf l (fun done => ∀ y ∈ done, (y == n) = false) (fun done rest => ⟨[(5, .d (.int .i64 done.length)), (0, .d (.lst (l.map ncell))), (1, .d (.int .i64 n))], [], []⟩) ?_ (by simp) ?_ ?_
 ·exact zzc (by simp only [go_sem])
 ·intro done x r hl hI
  have hx := getD_at (f := ncell) (d := []) hl
  have hlt := zzi hl
  rw [ncell] at hx
  simp only [zkb, go_sem, lM]
  intro hlen
  have hw : IntKind.i64.wrap ((done.length : Int) + 1) = ((done.length + 1 : Nat) : Int) := zze (by omega)
  simp only [go_sem, hx, hlt, zqI, natBeq]
  cases e : (x == n) with
  | true =>
   rw [zjV hl e] at hR
   simp only [go_sem, ← hR]
  | false =>
   simp only [go_sem, hw, lA]
   exact ⟨zzc (by simp only [go_sem, lA]), zyb hI e⟩
 ·intro hI
  rw [zwp hI] at hR
  simp only [zkb, go_sem, lM, ← hR]
theorem zWY (q : SQual) (h : SHole) (ht : Tame q.body) (hp : h.params.length ≤ 1048576) (hv : q.vars.length ≤ 1048576) (hn : h.params.length ^ (q.vars.length - 1) ≤ 1073741824) :
  ∀ (m : Nat) (l : List Nat), l.length + m = q.vars.length → 1 ≤ l.length → (∀ k ∈ l, k < h.params.length) →
   E.C zxo [.agg q.cells, .agg h.cells, .one (.lst (l.map ncell))] (.one (.lst (((chI h.params (q.vars.drop l.length) l).map (subOf q h.params)).map Pred.cells))) := by
 have hpos : 1 ≤ h.params.length ∨ h.params.length = 0 := by omega
 obtain ⟨qn, vs, p⟩ := q
 obtain ⟨hn', ps⟩ := h
 have hsub := fun ns by' => zWz Z ns by' p ht
 intro m
 induction m with
 | zero =>
  intro l hl h1l hk
  refine Z.zxo _ _ ⟨bl rfl, ?_⟩
  have hll : l.length = vs.length := by simpa using hl
  have hv : vs.length ≤ 1048576 := hv
  have hd : vs.drop l.length = [] := by rw [hll]; simp
  simp only [hd, chI, mC, mN, subOf]
  have hsub := hsub (vs.map SVar.name) (byOf ps l)
  simp only [zvD, go_sem, SQual.cells, SHole.cells, Pred.zzd p, lM] at hsub ⊢
  have he : ((l.length : Int) == (vs.length : Int)) = true := by simp [hll]
  intro hl1
  simp only [go_sem, he]
  intro _
  refine zzn fun K hK => ?_
  refine zzf l (fun done => True) (fun done rest => ⟨[(9, .d (.int .i64 done.length)), (2, .d (.lst (l.map ncell))), (3, .ptr 3 0), (4, .ptr 4 0), (7, .own 7 1 (((vs.take done.length).map SVar.name).map fun k => [.str k])), (8, .own 8 4 ((byOf ps done).map Pred.cells))],
   [(4, [.d (.str hn'), .d (.lst (ps.map SVar.cells))]), (3, [.d (.str qn), .d (.lst (vs.map SVar.cells)), .d (.int .i64 p.op), .d (.str p.name), .d (.int .i64 p.n), .d (.lst (p.kids.map Pred.cells))])], [(7, true), (8, true)]⟩) ?_ trivial ?_ ?_
  ·exact zJw 7 7 1 [] 8 8 4 [] [(7, 7), (8, 8)] rfl (by simp) rfl rfl (by simp) rfl (by simp only [Ent0, go_sem, cN, oS, List.take_zero, mN, lN, byOf]; rfl)
  ·intro done x r hl' _
   have hkx : x < ps.length := hk x (by rw [hl']; simp)
   have hx := getD_at (f := ncell) (d := []) hl'
   have hlt := zzi hl'
   have hdl : done.length < l.length := by rw [hl']; simp
   have hw : IntKind.i64.wrap ((done.length : Int) + 1) = ((done.length + 1 : Nat) : Int) := zze (by omega)
   have hv1 : (vs.map SVar.cells).getD done.length [] = [.str (vs.getD done.length noVar).name, .str (vs.getD done.length noVar).sort] := yzc (f := SVar.cells) (by omega)
   have hp1 : (ps.map SVar.cells).getD x [] = [.str (ps.getD x noVar).name, .str (ps.getD x noVar).sort] := yzc (f := SVar.cells) hkx
   have hltv : ((done.length : Int) < (vs.length : Int)) = True := eq_true (by omega)
   have hltp : ((x : Int) < (ps.length : Int)) = True := eq_true (by omega)
   rw [ncell] at hx
   simp only [zwu, go_sem, lM, hx, hlt, zqI, hv1, hp1, hltv, hltp, SVar.lens]
   intro _
   have htl : (vs.take done.length).length = done.length := by rw [List.length_take]; omega
   rw [htl, zQH]
   refine ⟨⟨by simp, by omega, by omega⟩, ⟨by simp, by omega, by omega⟩, zzo [(7, 32), (8, 45)] ?_⟩
   have htk : vs.take (done.length + 1) = vs.take done.length ++ [vs.getD done.length noVar] := by
    rw [List.take_add_one, List.getD_eq_getElem?_getD]
    have : done.length < vs.length := by omega
    simp [this]
   simp only [go_sem, cN, oS, mA, mC, mN, hw, lA, lC, lN, zA, htk, zXH, zyj]
   rfl
  ·intro _
   have htk : vs.take l.length = vs := by rw [hll, List.take_length]
   simp only [zwu, go_sem, lM, hK, htk]
   intro _
   refine zzb hsub ?_
   rw [Pred.zzd (subAll _ _ _)]
   simp only [go_sem, mC, mN]
 | succ m ih =>
  intro l hl h1l hk
  refine Z.zxo _ _ ⟨bl rfl, ?_⟩
  have hll : l.length < vs.length := by have : l.length + (m + 1) = vs.length := hl; omega
  have hch := zK5 Z l
  obtain ⟨v, rem, hvr⟩ : ∃ v rem, vs.drop l.length = v :: rem := by
   cases h : vs.drop l.length with
   | nil => have := congrArg List.length h; simp at this; omega
   | cons v rem => exact ⟨v, rem, rfl⟩
  have hvv : vs.getD l.length noVar = v := by
   have := congrArg (fun l => l[0]?) hvr
   simp at this
   rw [List.getD_eq_getElem?_getD, this]; rfl
  have hrem : vs.drop (l.length + 1) = rem := by
   have := congrArg List.tail hvr
   simpa using this
  have hv1 : (vs.map SVar.cells).getD l.length [] = [.str v.name, .str v.sort] := by rw [← hvv]; exact yzc (f := SVar.cells) hll
  have ih := fun k => ih (l ++ [k])
  simp only [lA, lC, lN, zA, hrem] at ih
  have ihk : ∀ k, k < ps.length → _ := fun k hk2 => ih k (by have : l.length + (m + 1) = vs.length := hl; show l.length + 1 + m = vs.length; omega) (by omega) (fun y hy => by
   rcases List.mem_append.1 hy with hy | hy
   ·exact hk y hy
   ·simp at hy; subst hy; exact hk2)
  simp only [hvr, zW4]
  simp only [zvD, go_sem, SQual.cells, SHole.cells, Pred.zzd p, lM] at ihk ⊢
  have he : ((l.length : Int) == (vs.length : Int)) = false := by simp; omega
  intro hl1
  simp only [go_sem, he]
  intro hl2
  have hp : ps.length ≤ 1048576 := hp
  have hv : vs.length ≤ 1048576 := hv
  have hn : ps.length ^ (vs.length - 1) ≤ 1073741824 := hn
  have hall := zJM ps (v :: rem) l
  rw [zW4] at hall
  have hrl : (v :: rem).length ≤ vs.length - 1 := by rw [← hvr, List.length_drop]; omega
  generalize hso : subOf ⟨qn, vs, p⟩ ps = so at *
  refine zzn fun K hK => ?_
  refine zzf (List.range' 1 (ps.length - 1)) (fun _ => True) (fun done _ => ⟨[(11, .d (.int .i64 (1 + done.length : Nat))), (2, .d (.lst (l.map ncell))), (3, .ptr 3 0), (4, .ptr 4 0), (10, .own 10 4 (((done.flatMap (chStep ps v rem l)).map so).map Pred.cells))],
   [(4, [.d (.str hn'), .d (.lst (ps.map SVar.cells))]), (3, [.d (.str qn), .d (.lst (vs.map SVar.cells)), .d (.int .i64 p.op), .d (.str p.name), .d (.int .i64 p.n), .d (.lst (p.kids.map Pred.cells))])], [(10, true)]⟩) ?_ trivial ?_ ?_
  ·exact zwJ 10 10 4 [] [(10, 10)] rfl (by simp) rfl (by simp only [Ent0, go_sem, cN, oS, List.flatMap_nil, mN, lN, Nat.add_zero])
  ·intro done x r hl' _
   obtain ⟨hx, hdl⟩ := yxQ hl'
   have hxp : x < ps.length := by omega
   have hpos : 0 < ps.length := by omega
   have hw : IntKind.i64.wrap (((1 + done.length : Nat) : Int) + 1) = ((1 + (done.length + 1) : Nat) : Int) := by rw [zze (by omega)]; rfl
   have hbig : ps.length ^ (v :: rem).length ≤ ps.length ^ (vs.length - 1) := Nat.pow_le_pow_right hpos hrl
   have hlenr : (done.flatMap (chStep ps v rem l)).length + (chStep ps v rem l x).length ≤ 1073741824 := by
    rw [hl'] at hall
    simp only [List.flatMap_append, List.flatMap_cons, lA] at hall
    omega
   have hchx := hch x
   have hltp : decide ((x : Int) < (ps.length : Int)) = true := by simp; omega
   have hltp' : ((x : Int) < (ps.length : Int)) = True := eq_true (by omega)
   have hltl : ((l.length : Int) < (vs.length : Int)) = True := eq_true (by omega)
   have hp1 : (ps.map SVar.cells).getD x [] = [.str (ps.getD x noVar).name, .str (ps.getD x noVar).sort] := yzc (f := SVar.cells) hxp
   have ihx := ihk x hxp
   rw [List.flatMap_append, List.flatMap_cons, List.flatMap_nil, List.append_nil]
   have hst : chStep ps v rem l x = if l.contains x || !((ps.getD x noVar).sort == v.sort) then [] else chI ps rem (l ++ [x]) := rfl
   rw [← hx]
   generalize done.flatMap (chStep ps v rem l) = outs at *
   generalize chStep ps v rem l x = st at *
   simp only [zwt, go_sem, lM, hltp, hp1, hltp', hltl, hv1, SVar.lens, zqI]
   intro _
   refine zzb hchx ?_
   simp only [go_sem, lM, hltp, hp1, hltp', hltl, hv1, SVar.lens, zqI]
   have hneg : (l.contains x || !((ps.getD x noVar).sort == v.sort)) = !(!l.contains x && (ps.getD x noVar).sort == v.sort) := by simp
   rw [hneg] at hst
   cases hc : (!l.contains x && (ps.getD x noVar).sort == v.sort) with
   | false =>
    rw [hc] at hst
    have hst : st = [] := hst
    subst hst
    simp only [go_sem, hx, hw]
    exact zzo [(10, 10)] (by simp only [go_sem, cN, oS, lA, List.append_nil, lC, lN, zA])
   | true =>
    rw [hc] at hst
    have hst : st = chI ps rem (l ++ [x]) := hst
    rw [← hst] at ihx
    simp only [go_sem]
    refine ⟨⟨by simp, by omega, by omega⟩, ⟨by simp, by omega, by omega⟩, ?_⟩
    have hm : l.map ncell ++ [[.int .i64 (x : Int)]] = (l ++ [x]).map ncell := by simp [ncell]
    rw [hm]
    refine zzb ihx ?_
    simp only [go_sem, hx, hw, lM, Pred.zzB]
    refine ⟨⟨by omega, by omega⟩, zzo [(10, 89)] ?_⟩
    simp only [go_sem, cN, oS, lA, mA, lC, lN, zA]
  ·intro _
   have hge : decide (((1 + (ps.length - 1) : Nat) : Int) < (ps.length : Int)) = false := by simp; omega
   simp only [zwt, go_sem, lM, hK, List.length_range', hge]
theorem zWB (q : SQual) (h : SHole) (ht : Tame q.body) (hp : h.params.length ≤ 1048576) (hv : q.vars.length ≤ 1048576) (hn : h.params.length ^ (q.vars.length - 1) ≤ 1073741824) : E.C zko [.agg q.cells, .agg h.cells] (.one (.lst ((instS q h).map Pred.cells))) := by
 have hch := fun m => zWY Z q h ht hp hv hn m [0]
 refine Z.zko _ _ ⟨bl rfl, ?_⟩
 obtain ⟨qn, vs, p⟩ := q
 obtain ⟨hn', ps⟩ := h
 generalize hR : instS ⟨qn, vs, p⟩ ⟨hn', ps⟩ = R at *
 simp only [zX9, go_sem, SQual.cells, SHole.cells, Pred.zzd p, lM] at hch ⊢
 cases vs with
 | nil =>
  have : R = [] := by rw [← hR]; rfl
  subst this
  have hgn : ((List.map SVar.cells []).getD 0 [] : List D) = [] := rfl
  cases ps with
  | nil => simp only [go_sem, hgn, SVar.len2, lN, nZ, Int.reduceBEq, List.drop_nil]
  | cons w ps =>
   have hg2 : ((w :: ps).map SVar.cells).getD 0 [] = [.str w.name, .str w.sort] := rfl
   simp only [go_sem, hgn, hg2, SVar.len2, lN, nZ, Int.reduceBEq, List.drop_nil]
 | cons v vs =>
 cases ps with
 | nil =>
  have : R = [] := by rw [← hR]; unfold instS; rw [if_pos (by simp)]
  subst this
  have hz : ((((v :: vs).length : Nat) : Int) == 0) = false := by simp; omega
  have hgn : ((List.map SVar.cells []).getD 0 [] : List D) = [] := rfl
  have hg : ((v :: vs).map SVar.cells).getD 0 [] = [.str v.name, .str v.sort] := rfl
  simp only [go_sem, hgn, hg, SVar.len2, lN, nZ, Int.reduceBEq, hz, List.drop_nil]
 | cons w ps =>
 have hz : ((((v :: vs).length : Nat) : Int) == 0) = false := by simp; omega
 have hz2 : ((((w :: ps).length : Nat) : Int) == 0) = false := by simp; omega
 have hpos : ((0 : Int) < (((v :: vs).length : Nat) : Int)) = True := eq_true (by simp)
 have hpos2 : ((0 : Int) < (((w :: ps).length : Nat) : Int)) = True := eq_true (by simp)
 have hg : ((v :: vs).map SVar.cells).getD 0 [] = [.str v.name, .str v.sort] := rfl
 have hg2 : ((w :: ps).map SVar.cells).getD 0 [] = [.str w.name, .str w.sort] := rfl
 have hch := hch vs.length (by simp; omega) (by simp)
 obtain ⟨vr, hvr⟩ : ∃ vr, vr = v :: vs := ⟨_, rfl⟩
 obtain ⟨pr, hpr⟩ : ∃ pr, pr = w :: ps := ⟨_, rfl⟩
 rw [← hvr] at hz hpos hg hR hch ⊢
 rw [← hpr] at hz2 hpos2 hg2 hR hch ⊢
 simp only [go_sem, hz, hz2, hpos, hpos2, hg, hg2]
 cases h1 : (v.sort == w.sort) with
 | false =>
  have : R = [] := by rw [← hR]; unfold instS; rw [if_pos (by simp [hvr, hpr, h1])]
  subst this
  simp only [h1, go_sem, mN]
 | true =>
 have hRR : R = (chI pr (vr.drop 1) [0]).map (subOf ⟨qn, vr, p⟩ pr) := by rw [← hR]; exact zKn (by show ((vr.length : Int) == 0 || (pr.length : Int) == 0 || !((vr.getD 0 noVar).sort == (pr.getD 0 noVar).sort)) = false; rw [hz, hz2, hvr, hpr]; simp [h1])
 have hm : [ncell 0] = [[.int .i64 0]] := rfl
 rw [hm, ← hRR] at hch
 simp only [h1, go_sem]
 refine zzb hch ?_
 simp only [go_sem]
end Go.Abs
end
section
namespace Go.Abs
def candsQ (h : SHole) (l : List SQual) : List Pred := candS l h
theorem zZm (h : SHole) (l : List SQual) (q : SQual) : candsQ h (l ++ [q]) = candGo (candsQ h l) (instS q h) := yzt l q h
theorem SQual.lens (l : List SQual) : (∀ e ∈ l.map SQual.cells, e.length = 6) = True := zxO (f := SQual.cells) (fun q => q.len) l
variable {E : AEnv} (Z : Sys E)
include Z
theorem zZ5 (x p : Pred) : E.C zzZ [.agg x.cells, .one (.ref p.cells)] (.one (.bool (x.same p))) := by
 have h := zwY Z x p
 refine Z.zzZ _ _ ⟨bl rfl, ?_⟩
 rw [Pred.zzd x, Pred.zzd p] at *
 simp only [zvd, go_sem]
 refine zzb h ?_
 simp only [go_sem]
theorem yzG (l : List Pred) (p : Pred) : E.C zzg [.one (.lst (l.map Pred.cells)), .one (.clo zzZ [.ref p.cells])] (.one (.bool (hasP l p))) := by
 have := zkr Z zzZ [.ref p.cells] (fun x => p.same x) l fun x _ => by rw [zjd]; exact zZ5 Z x p
 exact this
theorem zXb (l : List Pred) (p : Pred) : E.C zk2 [.one (.lst (l.map Pred.cells)), .agg p.cells] (.one (.bool (hasP l p))) := by
 have hs := fun x => zxm Z x p
 refine Z.zk2 _ _ ⟨bl rfl, ?_⟩
 generalize hR : hasP l p = R
 rw [Pred.zzd p] at *
 simp only [zY3, go_sem]
 refine zzf l (fun done => ∀ y ∈ done, p.same y = false) (fun done rest => ⟨[(5, .d (.int .i64 done.length)), (0, .d (.lst (l.map Pred.cells))), (3, .ptr 3 0)], [(3, [.d (.int .i64 p.op), .d (.str p.name), .d (.int .i64 p.n), .d (.lst (p.kids.map Pred.cells))])], []⟩) ?_ (by simp) ?_ ?_
 ·exact zzc (by simp only [go_sem, oS])
 ·intro done x r hl hI
  rw [zKS hl hI] at hR
  have hlt := zzi hl
  have hsx := hs x
  simp only [zkP, go_sem, hlt, zzA hl, lM, zqC]
  intro hlen
  have hw : IntKind.i64.wrap ((done.length : Int) + 1) = ((done.length + 1 : Nat) : Int) := zze (by omega)
  refine zzb hsx ?_
  rw [zjd]
  cases c0 : p.same x with
  | true => simp only [c0, go_sem] at hR ⊢; exact hR
  | false =>
   simp only [c0, go_sem, hw, lA]
   exact ⟨zzc (by simp only [go_sem, oS, lA]), zyb hI c0⟩
 ·intro hI
  rw [zWh hI] at hR
  simp only [zkP, go_sem, ← hR]
theorem zxP (h : SHole) (l : List SQual) (hin : ∀ q ∈ l, E.C zzC [.agg q.cells, .agg h.cells] (.one (.lst ((instS q h).map Pred.cells)))) : E.C zz8 [.one (.lst (l.map SQual.cells)), .agg h.cells] (.one (.lst ((candsQ h l).map Pred.cells))) := by
 refine Z.zz8 _ _ ⟨bl rfl, ?_⟩
 simp only [zjN, go_sem, SHole.cells] at hin ⊢
 intro hlen
 refine zzn fun K hK => ?_
 refine zzf l (fun _ => True) (fun done rest => ⟨[(11, .d (.int .i64 l.length)), (12, .d (.int .i64 done.length)), (10, .d (.lst (l.map SQual.cells))), (3, .ptr 3 0), (5, .own 5 4 ((candsQ h done).map Pred.cells))], [(3, [.d (.str h.name), .d (.lst (h.params.map SVar.cells))])], [(5, true)]⟩) ?_ trivial ?_ ?_
 ·exact zwJ 5 5 4 [] [(5, 5)] rfl (by simp) rfl (by simp only [Ent0, go_sem, cN, candsQ, candS, List.foldl_nil, mN, oS])
 ·intro done q r hl _
  have hx := getD_at (f := SQual.cells) (d := []) hl
  have hlt := zzi hl
  have hdl : done.length < l.length := by rw [hl]; simp
  have hw : IntKind.i64.wrap ((done.length : Int) + 1) = ((done.length + 1 : Nat) : Int) := zze (by omega)
  have hin := hin q (by rw [hl]; simp)
  rw [SQual.cells, Pred.zzd] at hx hin
  rw [zZm]
  have hol := zXJ done h
  rw [show candS done h = candsQ h done from rfl] at hol
  generalize candsQ h done = out at *
  simp only [zxT, go_sem, lM, hx, hlt, SQual.lens]
  refine zzb hin ?_
  simp only [go_sem, lM]
  intro _
  generalize instS q h = ins at *
  refine zzn fun K2 hK2 => ?_
  refine zzf ins (fun _ => True) (fun d _ => ⟨[(19, .d (.int .i64 ins.length)), (20, .d (.int .i64 d.length)), (18, .d (.lst (ins.map Pred.cells))), (11, .d (.int .i64 l.length)), (12, .d (.int .i64 done.length)), (10, .d (.lst (l.map SQual.cells))), (3, .ptr 3 0), (5, .own 5 4 ((candGo out d).map Pred.cells))], [(3, [.d (.str h.name), .d (.lst (h.params.map SVar.cells))])], [(5, true)]⟩) ?_ trivial ?_ ?_
  ·exact zzo [(5, 5)] (by simp only [go_sem, cN, oS, candGo, List.foldl_nil])
  ·intro d x r2 hl2 _
   have hlt2 := zzi hl2
   have hdl2 : d.length < ins.length := by rw [hl2]; simp
   have hw2 : IntKind.i64.wrap ((d.length : Int) + 1) = ((d.length + 1 : Nat) : Int) := zze (by omega)
   rw [zXI]
   have hol2 := zqy d hol
   generalize candGo out d = o2 at *
   have hhas := yzG Z o2 x
   have hxx := zzA hl2
   rw [Pred.zzd x] at hxx hhas
   unfold candStep
   simp only [zxS, go_sem, lM, hxx, hlt2, Pred.zzB]
   intro _
   refine zXs (cvs := [.one (.lst (o2.map Pred.cells)), .one (.clo zzZ [.ref [.int .i64 x.op, .str x.name, .int .i64 x.n, .lst (x.kids.map Pred.cells)]])]) rfl rfl (fun h => h) hhas ?_
   simp only [go_sem]
   cases c0 : (decide ((o2.length : Int) < 100) && !hasP o2 x) with
   | false =>
    simp only [c0, go_sem, hw2]
    exact zzo [(5, 5)] (by simp only [go_sem, cN, oS, lA, lC, lN, zA])
   | true =>
    simp only [c0, go_sem, hw2, lM, Pred.zzB]
    refine ⟨⟨by simp, by omega, by omega⟩, zzo [(5, 36)] ?_⟩
    simp only [go_sem, cN, oS, lA, lC, lN, zA, mA, mC, mN, Pred.zzd x]
  ·intro _
   simp only [zxS, go_sem, lM, hK2, hw]
   exact zzo [(5, 5)] (by simp only [go_sem, cN, oS, lA, lC, lN, zA])
 ·intro _
  simp only [zxT, go_sem, lM, hK]
theorem zKz (h : SHole) (l : List SQual) (hin : ∀ q ∈ l, E.C zko [.agg q.cells, .agg h.cells] (.one (.lst ((instS q h).map Pred.cells)))) : E.C zZx [.one (.lst (l.map SQual.cells)), .agg h.cells] (.one (.lst ((candsQ h l).map Pred.cells))) := by
 refine Z.zZx _ _ ⟨bl rfl, ?_⟩
 simp only [zKd, go_sem, SHole.cells] at hin ⊢
 refine zzn fun K hK => ?_
 refine zzf l (fun _ => True) (fun done rest => ⟨[(6, .d (.int .i64 done.length)), (0, .d (.lst (l.map SQual.cells))), (3, .ptr 3 0), (5, .own 5 4 ((candsQ h done).map Pred.cells))], [(3, [.d (.str h.name), .d (.lst (h.params.map SVar.cells))])], [(5, true)]⟩) ?_ trivial ?_ ?_
 ·exact zwJ 5 5 4 [] [(5, 5)] rfl (by simp) rfl (by simp only [Ent0, go_sem, cN, candsQ, candS, List.foldl_nil, mN, oS])
 ·intro done q r hl _
  have hx := getD_at (f := SQual.cells) (d := []) hl
  have hlt := zzi hl
  have hdl : done.length < l.length := by rw [hl]; simp
  have hin := hin q (by rw [hl]; simp)
  rw [SQual.cells, Pred.zzd] at hx hin
  rw [zZm]
  have hol := zXJ done h
  rw [show candS done h = candsQ h done from rfl] at hol
  generalize candsQ h done = out at *
  simp only [zjs, go_sem, lM, hx, hlt, SQual.lens]
  intro hlen
  have hw : IntKind.i64.wrap ((done.length : Int) + 1) = ((done.length + 1 : Nat) : Int) := zze (by omega)
  refine zzb hin ?_
  simp only [go_sem, lM]
  generalize instS q h = ins at *
  refine zzn fun K2 hK2 => ?_
  refine zzf ins (fun _ => True) (fun d _ => ⟨[(8, .d (.int .i64 d.length)), (7, .d (.lst (ins.map Pred.cells))), (6, .d (.int .i64 done.length)), (0, .d (.lst (l.map SQual.cells))), (3, .ptr 3 0), (5, .own 5 4 ((candGo out d).map Pred.cells))], [(3, [.d (.str h.name), .d (.lst (h.params.map SVar.cells))])], [(5, true)]⟩) ?_ trivial ?_ ?_
  ·exact zzo [(5, 5)] (by simp only [go_sem, cN, oS, candGo, List.foldl_nil, lN, nZ])
  ·intro d x r2 hl2 _
   have hlt2 := zzi hl2
   have hdl2 : d.length < ins.length := by rw [hl2]; simp
   rw [zXI]
   have hol2 := zqy d hol
   generalize candGo out d = o2 at *
   have hhas := zXb Z o2 x
   have hxx := zzA hl2
   rw [Pred.zzd x] at hxx hhas
   unfold candStep
   simp only [zjr, go_sem, lM, hxx, hlt2, Pred.zzB]
   intro hlen2
   have hw2 : IntKind.i64.wrap ((d.length : Int) + 1) = ((d.length + 1 : Nat) : Int) := zze (by omega)
   intro _
   refine zy8 (fun _ => hhas) ?_
   simp only [go_sem]
   cases c0 : (decide ((o2.length : Int) < 100) && !hasP o2 x) with
   | false =>
    simp only [c0, go_sem, hw2]
    exact zzo [(5, 5)] (by simp only [go_sem, cN, oS, lA, lC, lN, zA])
   | true =>
    simp only [c0, go_sem, hw2, lM, Pred.zzB, hxx, hlt2]
    refine ⟨⟨by simp, by omega, by omega⟩, zzo [(5, 45)] ?_⟩
    simp only [go_sem, cN, oS, lA, lC, lN, zA, mA, mC, mN, Pred.zzd x]
  ·intro _
   simp only [zjr, go_sem, lM, hK2, hw]
   exact fun _ => zzo [(5, 5)] (by simp only [go_sem, cN, oS, lA, lC, lN, zA])
 ·intro _
  simp only [zjs, go_sem, lM, hK]
end Go.Abs
end
section
namespace Go.Abs
theorem zvc (l : List Str) (s : Str) : l.contains s = l.any fun y => y == s := by
 rw [List.contains_eq_any_beq]; congr 1; funext y; rw [Bool.eq_iff_iff]; simp; exact eq_comm
theorem zqY (l : List Str) : (∀ e ∈ l.map fun k => [D.str k], e.length = 1) = True := eq_true (by simp)
def LeafVar (p : Pred) : Prop := ∀ q ∈ p.pre, q.op = 3 → q.kids = []
theorem zWr {o : Int} {s : Str} {n : Int} {ks : List Pred} {k q : Pred} (hk : k ∈ ks) (hq : q ∈ k.pre) : q ∈ (Pred.mk o s n ks).pre := zJ1.2 (.inr ⟨k, hk, hq⟩)
theorem LeafVar.kid {o : Int} {s : Str} {n : Int} {ks : List Pred} (h : LeafVar (.mk o s n ks)) {k : Pred} (hk : k ∈ ks) : LeafVar k := fun q hq => h q (zWr hk hq)
variable {E : AEnv} (Z : Sys E)
include Z
theorem zXL (l : List Str) (s : Str) : E.C zzs [.one (.lst (l.map fun k => [.str k])), .one (.str s)] (.one (.bool (l.contains s))) := by
 have h := zqs Z l s
 refine Z.zzs _ _ ⟨bl rfl, ?_⟩
 rw [← zYl s l 0]
 simp only [zyE, go_sem]
 refine zzb h ?_
 simp only [go_sem, ge_iff_le]
theorem zZ8 (p : Pred) : ∀ l : List Str, l.length + p.cnt ≤ 1073741824 → E.C zyq [.agg p.cells, .one (.lst (l.map fun k => [.str k]))] (.own (some 1) 1 ((orderP p l).map fun k => [.str k])) := by
 induction p using Pred.ind with
 | h o s n ks ih =>
 intro l hn
 have hcn := zXL Z l s
 refine Z.zyq _ _ ⟨bl rfl, ?_⟩
 have hlenK := zwO
 generalize hR : orderP (.mk o s n ks) l = R
 rw [zWu] at hR
 rw [Pred.cnt] at hn
 rw [Pred.zzd (.mk o s n ks)] at *
 have hrs : zwc.rs = [.t 4] := rfl
 simp only [zwc, go_sem, Pred.op, Pred.name, Pred.n, Pred.kids]
 have hcall : ∀ c0, (o == 3) = c0 → c0 = true → E.C zzs [.one (.lst (l.map fun k => [.str k])), .one (.str s)] (.one (.bool (l.contains s))) := fun _ _ _ => hcn
 have htail : ∀ (Q : AX → St → Prop) (st : St), True := fun _ _ => trivial
 cases c0 : (o == 3 && !l.contains s) with
 | true =>
  obtain ⟨c1, c2⟩ := Bool.and_eq_true_iff.1 c0
  have c2 : l.contains s = false := by simpa using c2
  rw [c0] at hR
  simp only [c1, go_sem] at hR ⊢
  refine zzb hcn ?_
  simp only [c2, go_sem] at hR ⊢
  refine ⟨⟨by simp, by omega, by omega⟩, ?_⟩
  rw [← hR]
  simp only [hrs, go_sem, mA, mC, mN]
 | false =>
  rw [c0] at hR
  have hgo : (o == 3) = true → l.contains s = true := fun h => by rw [h] at c0; simpa using c0
  simp only [go_sem] at hR ⊢
  refine zy8 (fun _ => hcn) ?_
  simp only [go_sem, c0]
  intro hlen
  refine zzn fun K' hK => ?_
  refine zzf ks (fun _ => True) (fun done rest => ⟨[(25, .d (.int .i64 done.length)), (24, .d (.int .i64 ks.length)), (23, .d (.lst (ks.map Pred.cells))), (1, .own 1 1 ((done.foldl (fun l k => orderP k l) l).map fun k => [.str k]))], [], [(1, true)]⟩) ?_ trivial ?_ ?_
  ·exact zzo [(1, 1)] (by simp only [go_sem, cN, oS, List.foldl_nil, lN, nZ])
  ·intro done k r hl _
   have hk' := ih k (by rw [hl]; simp) (done.foldl (fun l k => orderP k l) l) (by
    have h1 := hlenK done l fun k _ l => zqJ k l
    have h2 : Pred.cnts ks = Pred.cnts done + (k.cnt + Pred.cnts r) := by rw [hl, zZF, Pred.cnts]
    omega)
   have hlt := zzi hl
   have hw : IntKind.i64.wrap ((done.length : Int) + 1) = ((done.length + 1 : Nat) : Int) := zze (by omega)
   have hxx := zzA hl
   rw [Pred.zzd k] at hxx hk'
   simp only [zxd, go_sem, hlt, hxx, lM, Pred.zzB]
   refine zzb hk' ?_
   simp only [go_sem, hw, lA]
   refine zzo [(1, 31)] ?_
   simp only [go_sem, cN, oS, List.foldl_append, List.foldl_cons, List.foldl_nil, lA, lC, lN, zA]
  ·intro _
   generalize ks.foldl (fun l k => orderP k l) l = m at *
   simp only [zxd, go_sem, hK, hrs, hR]
theorem zJe (p : Pred) : LeafVar p → ∀ l : List Str, l.length + p.cnt ≤ 1073741824 → E.C zk3 [.agg p.cells, .one (.lst (l.map fun k => [.str k]))] (.own (some 1) 1 ((orderP p l).map fun k => [.str k])) := by
 induction p using Pred.ind with
 | h o s n ks ih =>
 intro hlv l hn
 refine Z.zk3 _ _ ⟨bl rfl, ?_⟩
 have hlenK := zwO
 have hkz : (o == 3) = true → ks = [] := fun h => hlv _ (zJ1.2 (.inl rfl)) (by simpa [Pred.op] using h)
 generalize hR : orderP (.mk o s n ks) l = R
 rw [zWu] at hR
 rw [Pred.cnt] at hn
 rw [Pred.zzd (.mk o s n ks)] at *
 have hrs : zqa.rs = [.t 4] := rfl
 simp only [zqa, go_sem, Pred.op, Pred.name, Pred.n, Pred.kids]
 cases c0 : (o == 3) with
 | true =>
  have hkz := hkz c0
  subst hkz
  rw [zvc] at hR
  simp only [c0, go_sem, List.foldl_nil] at hR ⊢
  refine zzn fun K' hK => ?_
  refine zzf l (fun done => ∀ y ∈ done, (y == s) = false) (fun done rest => ⟨[(5, .d (.int .i64 done.length)), (1, .own 1 1 (l.map fun k => [.str k])), (2, .ptr 2 0)], [(2, [.d (.int .i64 o), .d (.str s), .d (.int .i64 n), .d (.lst [])])], [(1, true)]⟩) ?_ (by simp) ?_ ?_
  ·exact zzo [(1, 1)] (by simp only [go_sem, cN, oS, lN, nZ, mN])
  ·intro done x r hl hI
   have hx := getD_at (f := fun k : Str => [D.str k]) (d := []) hl
   have hlt := zzi hl
   have hdl : done.length < l.length := by rw [hl]; simp
   have hw : IntKind.i64.wrap ((done.length : Int) + 1) = ((done.length + 1 : Nat) : Int) := zze (by omega)
   simp only [zkR, go_sem, lM, hx, hlt, zqY]
   intro _
   cases c1 : (x == s) with
   | true =>
    rw [zjV hl c1] at hR
    simp only [c1, go_sem, hK] at hR ⊢
    simp only [hrs, go_sem, hR]
   | false =>
    simp only [c1, go_sem, hw, lA]
    exact ⟨zzo [(1, 1)] (by simp only [go_sem, cN, oS, lA, lC, lN, zA]), zyb hI c1⟩
  ·intro hI
   rw [zwp hI] at hR
   simp only [zkR, go_sem, lM, hK] at hR ⊢
   intro _
   refine ⟨⟨by simp, by omega, by omega⟩, ?_⟩
   rw [← hR]
   simp only [hrs, go_sem, mA, mC, mN]
 | false =>
  simp only [c0, go_sem] at hR ⊢
  refine zzn fun K' hK => ?_
  refine zzf ks (fun _ => True) (fun done rest => ⟨[(6, .d (.int .i64 done.length)), (2, .ptr 2 0), (1, .own 1 1 ((done.foldl (fun l k => orderP k l) l).map fun k => [.str k]))], [(2, [.d (.int .i64 o), .d (.str s), .d (.int .i64 n), .d (.lst (ks.map Pred.cells))])], [(1, true)]⟩) ?_ trivial ?_ ?_
  ·exact zzo [(1, 1)] (by simp only [go_sem, cN, oS, List.foldl_nil, lN, nZ])
  ·intro done k r hl _
   have hk' := ih k (by rw [hl]; simp) (hlv.kid (by rw [hl]; simp)) (done.foldl (fun l k => orderP k l) l) (by
    have h1 := hlenK done l fun k _ l => zqJ k l
    have h2 : Pred.cnts ks = Pred.cnts done + (k.cnt + Pred.cnts r) := by rw [hl, zZF, Pred.cnts]
    omega)
   have hlt := zzi hl
   have hxx := zzA hl
   rw [Pred.zzd k] at hxx hk'
   simp only [zkQ, go_sem, hlt, hxx, lM, Pred.zzB]
   intro hlen
   have hw : IntKind.i64.wrap ((done.length : Int) + 1) = ((done.length + 1 : Nat) : Int) := zze (by have := zzi hl; omega)
   refine zzb hk' ?_
   simp only [go_sem, hw, lA]
   refine zzo [(1, 42)] ?_
   simp only [go_sem, cN, oS, List.foldl_append, List.foldl_cons, List.foldl_nil, lA, lC, lN, zA]
  ·intro _
   generalize ks.foldl (fun l k => orderP k l) l = m at *
   simp only [zkQ, go_sem, hK, hrs, hR]
end Go.Abs
end
section
namespace Go.Abs
def EqTwo (p : Pred) : Prop := ∀ q ∈ p.pre, (q.op == 10 || q.op == 11) = true → q.kids.length = 2
theorem EqTwo.kid {o : Int} {s : Str} {n : Int} {ks : List Pred} (h : EqTwo (.mk o s n ks)) {k : Pred} (hk : k ∈ ks) : EqTwo k := fun q hq => h q (zWr hk hq)
def varOther (k : Pred) : Bool := k.op == 3 && !(k.name == sV)
theorem yxi (ks : List Pred) : (ks.any fun k => k.op == 3 && !(k.name == sV)) = ks.any varOther := rfl
def boolBody : AC := match zzE.ac with
 | .seq _ b => b
 | c => c
theorem yk5 : zzE.ac = .seq (.reg [(none, .box 3 (.t 0)), (none, .box 4 (.t 1)), (none, .box 5 (.t 2)), (none, .mv 6 (.c (.d (.bool false))))]) boolBody := rfl
theorem yk6 : zzE.rs = [.t 6] := rfl
variable {E : AEnv} (Z : Sys E)
include Z
theorem zq5 (k : Pred) : E.C zz5 [.agg k.cells] (.one (.bool (varOther k))) := by
 refine Z.zz5 _ _ ⟨bl rfl, ?_⟩
 have hv : varOther k = (k.op == 3 && !(k.name == [118])) := rfl
 rw [Pred.zzd k, hv]
 simp only [zkk, go_sem]
theorem zZ7 (p : Pred) : E.C zyd [.agg p.cells] (.one (.bool (holedP p))) := by
 induction p using Pred.ind with
 | h o s n ks ih =>
 have h1 := zkr Z zz5 [] varOther ks fun x _ => zq5 Z x
 have h2 := zkr Z zyd [] holedP ks fun x hx => ih x hx
 refine Z.zyd _ _ ⟨bl rfl, ?_⟩
 generalize hR : holedP (.mk o s n ks) = R
 rw [zVP, yxi] at hR
 rw [Pred.zzd] at *
 simp only [zvg, go_sem, Pred.op, Pred.name, Pred.n, Pred.kids] at h1 h2 ⊢
 cases c0 : (o == 5) with
 | true => simp only [c0, go_sem] at hR ⊢; exact hR
 | false =>
 simp only [c0, go_sem] at hR ⊢
 refine zy8 (fun _ => h1) ?_
 simp only [go_sem]
 cases c1 : (o == 4 && ks.any varOther) with
 | true => simp only [c1, go_sem] at hR ⊢; exact hR
 | false =>
 simp only [c1, go_sem] at hR ⊢
 refine zzb h2 ?_
 simp only [go_sem, hR]
theorem zZ9 (p : Pred) (s : Str) : E.C zyr [.agg p.cells, .one (.str s)] (.one (.bool (truthP p s))) := by
 refine Z.zyr _ _ ⟨bl rfl, ?_⟩
 have hv : truthP p s = (p.op == 2 || (decide (p.op ≥ 10) && decide (p.op ≤ 18)) || p.op == 3 && p.name == [118] && s == [66, 111, 111, 108]) := rfl
 rw [hv, Pred.zzd p]
 simp only [zvh, go_sem]
theorem zja (o : Int) : E.C zyD [.one (.int .i64 o)] (.one (.bool (connB o))) := by
 refine Z.zyD _ _ ⟨bl rfl, ?_⟩
 rw [zQN]
 simp only [zvW, go_sem]
theorem zJf (p : Pred) (s : Str) : E.C zjb [.agg p.cells, .one (.str s)] (.one (.bool (truthP p s))) := by
 have hc := zja Z p.op
 rw [zQN] at hc
 refine Z.zjb _ _ ⟨bl rfl, ?_⟩
 generalize hR : truthP p s = R
 have hv : (p.name == sV && s == sBool) = (p.name == [118] && s == [66, 111, 111, 108]) := rfl
 rw [yx9, Bool.and_assoc, hv] at hR
 rw [Pred.zzd p]
 simp only [zY4, go_sem]
 cases c2 : (p.op == 2) with
 | true => simp only [c2, go_sem] at hR ⊢; exact hR
 | false =>
 cases c10 : (p.op == 10) with
 | true => simp only [c2, c10, go_sem] at hR ⊢; exact hR
 | false =>
 cases c11 : (p.op == 11) with
 | true => simp only [c2, c10, c11, go_sem] at hR ⊢; exact hR
 | false =>
 cases c12 : (p.op == 12) with
 | true => simp only [c2, c10, c11, c12, go_sem] at hR ⊢; exact hR
 | false =>
 cases c13 : (p.op == 13) with
 | true => simp only [c2, c10, c11, c12, c13, go_sem] at hR ⊢; exact hR
 | false =>
 cases c3 : (p.op == 3) with
 | true =>
  have e : p.op = 3 := by simpa using c3
  simp only [c2, c10, c11, c12, c13, c3, go_sem] at hR ⊢
  rw [← hR, e]
  simp
 | false =>
 simp only [c2, c10, c11, c12, c13, c3, go_sem] at hR ⊢
 refine zzb hc ?_
 simp only [go_sem, hR]
theorem zWX (p : Pred) : E.C zxY [.agg p.cells] (.one (.bool (appliedP p))) := by
 induction p using Pred.ind with
 | h o s n ks ih =>
 refine Z.zxY _ _ ⟨bl rfl, ?_⟩
 generalize hR : appliedP (.mk o s n ks) = R
 rw [zXE] at hR
 rw [Pred.zzd] at *
 simp only [zZg, go_sem, Pred.op, Pred.name, Pred.n, Pred.kids]
 refine zzn fun K hK => ?_
 refine zzf ks (fun done => ∀ x ∈ done, (o == 4 && x.op == 3 && !(x.name == sV) || appliedP x) = false) (fun done rest => ⟨[(3, .d (.int .i64 done.length)), (1, .ptr 1 0)], [(1, [.d (.int .i64 o), .d (.str s), .d (.int .i64 n), .d (.lst (ks.map Pred.cells))])], []⟩) ?_ (by simp) ?_ ?_
 ·exact zzc (by simp only [go_sem, oS, lN, nZ])
 ·intro done k r hl hI
  have hk' := ih k (by rw [hl]; simp)
  have hlt := zzi hl
  have hdl : done.length < ks.length := by rw [hl]; simp
  have hxx := zzA hl
  rw [Pred.zzd k] at hxx hk'
  simp only [zws, go_sem, hlt, hxx, lM, Pred.zzB]
  intro hlen
  have hw : IntKind.i64.wrap ((done.length : Int) + 1) = ((done.length + 1 : Nat) : Int) := zze (by omega)
  refine zy8 (fun _ => hk') ?_
  simp only [go_sem]
  have hv : (k.name == sV) = (k.name == [118]) := rfl
  cases c0 : (o == 4 && k.op == 3 && !(k.name == sV) || appliedP k) with
  | true =>
   rw [zjV hl c0] at hR
   rw [hv] at c0
   simp only [c0, go_sem, hK] at hR ⊢; exact hR
  | false =>
   have c0' := c0
   rw [hv] at c0
   simp only [c0, go_sem, hw]
   exact ⟨zzc (by simp only [go_sem, oS, lA, lC, lN, zA]), zyb hI c0'⟩
 ·intro hI
  rw [zwp hI] at hR
  subst hR
  rw [zws]
  refine zw3 fun N hN => ?_
  simp only [go_sem, lM]
  intro _
  rw [hK]
  simp only [go_sem]
omit Z in
theorem zQT (G : Nat → Option (List D)) (b : Nat) (x : List D) : ext G b x b = some x := by simp [Go.Abs.ext]
omit Z in
theorem yy2 {G : Nat → Option (List D)} {b c : Nat} {x y : List D} (h : G b = some x) (hx : x ≠ []) (hc : Gfree G c) : ext G c y b = some x := by
 have hne : b ≠ c := by rintro rfl; exact hx (hc _ h)
 simp [Go.Abs.ext, hne, h]
theorem zjU (k : Pred) (name : Str) {b : Nat} (hb : E.G b = some [.str name]) : E.C zzP [.agg k.cells, .one (.gp b 0)] (.one (.bool (isVar name k))) := by
 refine Z.zzP _ _ ⟨bl rfl, ?_⟩
 rw [Pred.zzd k, isVar]
 simp only [zwn, go_sem, hb]
omit Z in
structure FamQ (X : (Nat → Option (List D)) → AEnv) : Prop where
 sys : ∀ G, Sys (X G)
 G : ∀ G, (X G).G = G
omit Z in
theorem zq3 {X : (Nat → Option (List D)) → AEnv} (F : FamQ X) (ZF : ∀ G bs dep args r, BodyF X bs dep G zzE args r → (X G).C zzD args r) (name t : Str) (p : Pred) : ∀ G : Nat → Option (List D),
  (X G).C zzD [.agg p.cells, .one (.str name), .one (.str t)] (.one (.bool (boolP name t p))) := by
 induction p using Pred.ind with
 | h o s n ks ih =>
 intro G
 have hv := fun G b (hb : G b = some [.str name]) x => zjU (F.sys G) x name (b := b) (by rw [F.G]; exact hb)
 have h1 := fun G b (hb : G b = some [.str name]) => zkr (F.sys G) zzP [.gp b 0] (isVar name) ks fun x _ => hv G b hb x
 have hb2 : ∀ G b c, G b = some [.str name] → G c = some [.str t] → ∀ x ∈ ks, (X G).C zzQ [.agg x.cells, .one (.gp b 0), .one (.gp c 0)] (.one (.bool (boolP name t x))) := fun G b c hb hc x hx => by
  have hx := ih x hx G
  refine (F.sys G).zzQ _ _ ⟨bl rfl, ?_⟩
  rw [Pred.zzd x] at *
  simp only [zwo, go_sem, F.G, hb, hc]
  refine zzb hx ?_
  simp only [go_sem]
 have h2 := fun G b c hb hc => zkr (F.sys G) zzQ [.gp b 0, .gp c 0] (boolP name t) ks (hb2 G b c hb hc)
 have ht := fun G x => zZ9 (F.sys G) x t
 clear hb2 ih
 refine ZF G [4, 5] 1 _ _ ⟨bl rfl, ?_⟩
 generalize hR : boolP name t (.mk o s n ks) = R
 rw [zQG] at hR
 have hcn : connB o = (decide (o ≥ 14) && decide (o ≤ 18)) := rfl
 rw [Pred.zzd]
 rw [yk5, yk6]
 simp only [awpF, go_sem, Pred.op, Pred.name, Pred.n, Pred.kids]
 intro b4 hb4
 refine ⟨_, [.str name], rfl, rfl, ?_⟩
 intro b5 hb5
 refine ⟨_, [.str t], rfl, rfl, ?_⟩
 have k4 : ext (ext G b4 [.str name]) b5 [.str t] b4 = some [.str name] := yy2 (zQT _ _ _) (by simp) hb5
 have k5 : ext (ext G b4 [.str name]) b5 [.str t] b5 = some [.str t] := zQT _ _ _
 generalize ext (ext G b4 [.str name]) b5 [.str t] = G' at *
 have h1 := h1 G' b4 k4
 have h2 := h2 G' b4 b5 k4 k5
 have hv := hv G' b4 k4
 have ht := ht G'
 simp only [awpF, boolBody, zzE, St.frz, frzSlots, frzMem, AV.frz, AV.frzs, go_sem]
 refine zy8 (fun _ => h1) ?_
 simp only [go_sem]
 rw [hcn] at hR
 cases c0 : (decide (o ≥ 14) && decide (o ≤ 18) && ks.any (isVar name)) with
 | true => simp only [c0, go_sem] at hR ⊢; exact hR
 | false =>
 simp only [c0, go_sem] at hR ⊢
 cases c1 : ((o == 10 || o == 11) && (ks.length : Int) == 2) with
 | false =>
  simp only [c1, go_sem, F.G, k4, k5] at hR ⊢
  refine ⟨.one (.bool false), ?_⟩
  simp only [go_sem, F.G, k4, k5]
  refine ⟨.one (.bool false), ?_⟩
  simp only [go_sem, F.G, k4, k5]
  refine ⟨.one (.bool false), ?_⟩
  simp only [go_sem, F.G, k4, k5]
  refine ⟨.one (.bool false), ?_⟩
  simp only [go_sem, F.G, k4, k5]
  refine zzb h2 ?_
  simp only [go_sem, hR]
 | true =>
  have hk2 : ks.length = 2 := by simp at c1; omega
  obtain ⟨a, b, rfl⟩ := zwx hk2
  have hg0 : ([a, b].map Pred.cells).getD 0 [] = a.cells := rfl
  have hg1 : ([a, b].map Pred.cells).getD 1 [] = b.cells := rfl
  have hh : eqHead name t [a, b] = (isVar name a && truthP b t || isVar name b && truthP a t) := rfl
  rw [c1, hh] at hR
  have hab : (∀ e ∈ [a.cells, b.cells], e.length = 4) = True := eq_true (by simp [Pred.zzu])
  have hva := hv a
  have hvb := hv b
  have hta := ht a
  have htb := ht b
  simp only [c1, go_sem, lM, hk2, hg0, hg1, F.G, k4, k5, hab] at hR ⊢
  refine zzb hva ?_
  simp only [go_sem, lM, hk2, hg0, hg1, F.G, k4, k5, hab]
  refine zy8 (fun _ => htb) ?_
  simp only [go_sem, lM, hk2, hg0, hg1, F.G, k4, k5, hab]
  refine zy8 (fun _ => hvb) ?_
  simp only [go_sem, lM, hk2, hg0, hg1, F.G, k4, k5, hab]
  refine zy8 (fun _ => hta) ?_
  simp only [go_sem, F.G, k4, k5]
  trace_state
  cases c2 : (isVar name a && truthP b t || isVar name b && truthP a t) with
  | true => simp only [c2, go_sem] at hR ⊢; exact hR
  | false =>
  simp only [c2, go_sem] at hR ⊢
  refine zzb h2 ?_
  simp only [go_sem, hR]
end Go.Abs
end
section
namespace Go.Abs
theorem zXc {n : Nat} {f : Nat → Bool} {i : Nat} (hi : i < n) (h : f i = true) : (List.range n).any f = true := List.any_eq_true.2 ⟨i, List.mem_range.2 hi, h⟩
theorem zWZ {n : Nat} {f : Nat → Bool} (h : ∀ i, i < n → f i = false) : (List.range n).any f = false := zwp fun x hx => h x (List.mem_range.1 hx)
theorem yxf {ks a r : List Pred} {k : Pred} (hl : ks = a ++ k :: r) : ks.getD a.length zeroP = k := by rw [hl]; simp
variable {E : AEnv} (Z : Sys E)
include Z
theorem yxP (name t : Str) (p : Pred) : EqTwo p → E.C zWD [.agg p.cells, .one (.str name), .one (.str t)] (.one (.bool (boolP name t p))) := by
 induction p using Pred.ind with
 | h o s n ks ih =>
 intro h2
 have htwo : (o == 10 || o == 11) = true → ks.length = 2 := fun h => h2 _ (zJ1.2 (.inl rfl)) h
 have hcon := zja Z o
 have htr := fun x => zJf Z x t
 refine Z.zWD _ _ ⟨bl rfl, ?_⟩
 generalize hR : boolP name t (.mk o s n ks) = R
 rw [← ykk name t s n htwo] at hR
 rw [Pred.zzd] at *
 simp only [zVI, go_sem, Pred.op, Pred.name, Pred.n, Pred.kids]
 refine zzn fun K hK => ?_
 refine zzf ks (fun done => ∀ i, i < done.length → refK o name t ks i = false) (fun done rest => ⟨[(7, .d (.int .i64 done.length)), (1, .d (.str name)), (2, .d (.str t)), (3, .ptr 3 0)], [(3, [.d (.int .i64 o), .d (.str s), .d (.int .i64 n), .d (.lst (ks.map Pred.cells))])], []⟩) ?_ (by simp) ?_ ?_
 ·exact zzc (by simp only [go_sem, oS, lN, nZ])
 ·intro done k r hl hI
  have hk' := ih k (by rw [hl]; simp) (h2.kid (by rw [hl]; simp))
  have hlt := zzi hl
  have hdl : done.length < ks.length := by rw [hl]; simp
  have hxx := zzA hl
  have href : refK o name t ks done.length = (isVar name k && (connB o || (o == 10 || o == 11) && truthP (ks.getD (1 - done.length) zeroP) t) || boolP name t k) := by unfold refK; rw [yxf hl]
  have hvk : isVar name k = (k.op == 3 && k.name == name) := rfl
  rw [hvk] at href
  have hother : (o == 10 || o == 11) = true → ∃ j : Nat, 1 - (done.length : Int) = j ∧ j < ks.length ∧ 1 - done.length = j := fun h => ⟨1 - done.length, by have := htwo h; omega, by have := htwo h; omega, rfl⟩
  rw [Pred.zzd k] at hxx hk'
  rw [zj9]
  simp only [go_sem, hlt, hxx, lM, Pred.zzB]
  intro hlen
  have hw : IntKind.i64.wrap ((done.length : Int) + 1) = ((done.length + 1 : Nat) : Int) := zze (by omega)
  have hw1 : IntKind.i64.wrap (1 - (done.length : Int)) = 1 - (done.length : Int) := zKk (by omega) (by omega)
  have hy : (o == 10 || o == 11) = true → (0 ≤ 1 - (done.length : Int) ∧ 1 - (done.length : Int) < (ks.length : Int)) ∧ (ks.map Pred.cells).getD (1 - (done.length : Int)).toNat [] = (ks.getD (1 - done.length) zeroP).cells := fun h => by
   have h3 := htwo h
   have e : (1 - (done.length : Int)).toNat = 1 - done.length := by omega
   rw [e]
   exact ⟨⟨by omega, by omega⟩, zWg _ _ (by omega)⟩
  generalize hyc : (ks.map Pred.cells).getD (1 - (done.length : Int)).toNat [] = yc at *
  generalize hyp : ks.getD (1 - done.length) zeroP = y at *
  refine zy8 (fun _ => hcon) ?_
  simp only [go_sem, hlt, hxx, lM, Pred.zzB, hw1, hyc]
  have hg : ∀ {q : Prop}, ((o == 10 || o == 11) = true → q) → ((k.op == 3 && k.name == name && !connB o && (o == 10 || o == 11)) = true → q) := fun hq h => hq (Bool.and_eq_true_iff.1 h).2
  refine ⟨hg fun h => (hy h).1, hg fun h => ?_, ?_⟩
  ·rw [(hy h).2, Pred.zzu]; exact Nat.le_refl _
  refine zy8 (r := .one (.bool (truthP y t))) (hg fun h => ?_) ?_
  ·rw [(hy h).2]
   have : y.cells.take 4 = y.cells := List.take_of_length_le (by rw [Pred.zzu]; exact Nat.le_refl _)
   rw [this]
   exact htr y
  simp only [go_sem]
  cases c0 : (k.op == 3 && k.name == name && (connB o || (o == 10 || o == 11) && truthP y t)) with
  | true =>
   have hr : refK o name t ks done.length = true := by rw [href, c0]; rfl
   rw [zXc hdl hr] at hR
   simp only [c0, go_sem, hK] at hR ⊢; exact hR
  | false =>
  rw [c0, Bool.false_or] at href
  simp only [c0, go_sem]
  refine zzb hk' ?_
  simp only [go_sem]
  cases c1 : boolP name t k with
  | true =>
   rw [c1] at href
   rw [zXc hdl href] at hR
   simp only [c1, go_sem, hK] at hR ⊢; exact hR
  | false =>
  rw [c1] at href
  simp only [c1, go_sem, hw]
  refine ⟨zzc (by simp only [go_sem, oS, lA, lC, lN, zA]), ?_⟩
  intro i hi
  by_cases e : i < done.length
  ·exact hI i e
  ·have : i = done.length := by simp at hi; omega
   subst this; exact href
 ·intro hI
  rw [zWZ hI] at hR
  subst hR
  rw [zj9]
  refine zw3 fun N hN => ?_
  simp only [go_sem, lM]
  intro _
  rw [hK]
  simp only [go_sem]
end Go.Abs
end
section
namespace Go.Abs
def scl (s : Str) : AV := .d (.str s)
def keepF (x : Str) : Bool := !(x == sV)
theorem rowsStr (l : List Str) (z : List AV) : rowsOf 1 l.length (l.map scl ++ z) = some (l.map fun k => [D.str k]) := by
 have := zK9 (e := 1) (l.map fun k => [D.str k]) z (fun e he => by obtain ⟨k, _, rfl⟩ := List.mem_map.1 he; rfl)
 rw [lM] at this
 rw [← this]
 congr 2
 clear this
 induction l with
 | nil => rfl
 | cons x l ih => simp only [mC, List.flatten_cons, mA, ← ih]; rfl
theorem yw5 (m : Mem) (l : List Str) : (l.map scl).mapM (AV.toD m 2) = some (l.map D.str) := by
 induction l with
 | nil => rfl
 | cons x l ih => rw [mC, List.mapM_cons, ih]; rfl
theorem yyT (l : List Str) : chunk 1 l.length (l.map D.str) = l.map fun k => [D.str k] := by
 induction l with
 | nil => rfl
 | cons x l ih => rw [lC, mC, mC, chunk, List.take_succ_cons, List.take_zero, List.drop_succ_cons, List.drop_zero, ih]
def delC (kept l : List Str) (n : Nat) : List AV := (kept ++ l.drop kept.length).map scl ++ List.replicate n AV.undef
theorem zQQ {kept l : List Str} {n : Nat} (h : kept.length ≤ l.length) : (delC kept l n).length = l.length + n := by
 simp [delC]; omega
theorem ywB {kept l : List Str} {n j : Nat} {x : Str} (h : kept.length ≤ j) (hx : l[j]? = some x) : ((delC kept l n).drop j).take 1 = [.d (.str x)] := by
 have hj : j < l.length := (List.getElem?_eq_some_iff.1 hx).1
 have e : (delC kept l n)[j]? = some (scl x) := by
  unfold delC
  rw [List.getElem?_append_left (by simp; omega), List.getElem?_map, List.getElem?_append_right h, List.getElem?_drop]
  have : kept.length + (j - kept.length) = j := by omega
  rw [this, hx]; rfl
 have hlt : j < (delC kept l n).length := (List.getElem?_eq_some_iff.1 e).1
 rw [List.drop_eq_getElem_cons hlt]
 have : (delC kept l n)[j] = scl x := (List.getElem?_eq_some_iff.1 e).2
 rw [this]; rfl
theorem ywC {kept l : List Str} {n : Nat} {x : Str} (h : kept.length < l.length) : (delC kept l n).take kept.length ++ [.d (.str x)] ++ (delC kept l n).drop (kept.length + 1) = delC (kept ++ [x]) l n := by
 have e : delC kept l n = kept.map scl ++ ((l.drop kept.length).map scl ++ List.replicate n AV.undef) := by simp [delC]
 have hl : (kept.map scl).length = kept.length := by simp
 rw [e, List.take_append_of_le_length (by omega), ← hl, List.take_length, hl]
 have : (kept.map scl ++ ((l.drop kept.length).map scl ++ List.replicate n AV.undef)).drop (kept.length + 1) = ((l.drop kept.length).map scl ++ List.replicate n AV.undef).drop 1 := by
  rw [List.drop_append]; simp [hl]
 rw [this]
 have hd : l.drop kept.length = l[kept.length] :: l.drop (kept.length + 1) := by rw [List.drop_eq_getElem_cons h]
 rw [hd, mC, List.cons_append, List.drop_succ_cons, List.drop_zero]
 simp [delC, scl, List.map_drop]
theorem ywA {kept l : List Str} {n : Nat} (h : kept.length ≤ l.length) : (delC kept l n).take kept.length ++ (List.replicate (l.length - kept.length) [AV.d (.str [])]).flatten ++ (delC kept l n).drop (kept.length + (l.length - kept.length) * 1) = kept.map scl ++ List.replicate (l.length - kept.length) (scl []) ++ List.replicate n AV.undef := by
 have e : delC kept l n = kept.map scl ++ ((l.drop kept.length).map scl ++ List.replicate n AV.undef) := by simp [delC]
 have hl : (kept.map scl).length = kept.length := by simp
 have hf : (List.replicate (l.length - kept.length) [AV.d (.str [])]).flatten = List.replicate (l.length - kept.length) (scl []) := by
  generalize l.length - kept.length = m
  induction m with
  | zero => rfl
  | succ m ih => rw [List.replicate_succ, List.flatten_cons, ih, List.replicate_succ]; rfl
 rw [hf, Nat.mul_one, e, List.take_append_of_le_length (by omega), ← hl, List.take_length, hl]
 have h2 : kept.length + (l.length - kept.length) = l.length := by omega
 rw [h2]
 have h3 : (kept.map scl ++ ((l.drop kept.length).map scl ++ List.replicate n AV.undef)).drop l.length = List.replicate n AV.undef := by
  have : ((kept.map scl) ++ (l.drop kept.length).map scl).length = l.length := by simp; omega
  rw [← List.append_assoc, List.drop_append, this, Nat.sub_self, List.drop_zero, List.drop_eq_nil_of_le (by omega), List.nil_append]
 rw [h3]
theorem zvS (m : Mem) (mp : TMap) : ∀ l : List Str, EntCs m mp (l.map scl) (l.map scl)
 | [] => trivial
 | _ :: l => ⟨rfl, zvS m mp l⟩
theorem zZG (m : Mem) (mp : TMap) : ∀ n : Nat, EntCs m mp (List.replicate n AV.undef) (List.replicate n AV.undef)
 | 0 => trivial
 | n + 1 => ⟨rfl, zZG m mp n⟩
theorem zVw (m : Mem) (mp : TMap) (l : List Str) (n : Nat) : EntCs m mp (l.map scl ++ List.replicate n AV.undef) (l.map scl ++ List.replicate n AV.undef) = True := eq_true (zxK (zvS m mp l) (zZG m mp n))
theorem zYk (m : Mem) (mp : TMap) (k l : List Str) (n : Nat) : EntCs m mp (delC k l n) (delC k l n) = True := zVw m mp _ n
def delE (l : List Str) (n : Nat) : List AV := (l.filter keepF).map scl ++ List.replicate (l.length - (l.filter keepF).length) (scl []) ++ List.replicate n AV.undef
variable {E : AEnv} (Z : Sys E)
include Z
theorem yym (x : Str) : E.C zzy [.one (.str x)] (.one (.bool (x == sV))) := by
 have hv : (x == sV) = (x == [118]) := rfl
 refine Z.zzy _ _ ⟨bl rfl, ?_⟩
 rw [hv]
 simp only [zvU, go_sem]
theorem zQ4 (l : List Str) : E.C zzw [.one (.lst (l.map fun k => [.str k])), .one (.clo zzy [])] (.one (.int .i64 (ixQ (fun x => x == sV) l))) := by
 have hf := yym Z
 refine Z.zzw _ _ ⟨bl rfl, ?_⟩
 generalize hR : ixQ (fun x => x == sV) l = R
 simp only [zyv, go_sem, lM]
 intro hlen
 refine zzf l (fun done => ∀ y ∈ done, (y == sV) = false) (fun done rest => ⟨[(8, .d (.int .i64 done.length)), (7, .d (.int .i64 l.length)), (0, .d (.lst (l.map fun k => [.str k]))), (1, .d (.clo zzy []))], [], []⟩) ?_ (by simp) ?_ ?_
 ·exact zzc (by simp only [go_sem])
 ·intro done x r hl hI
  have hx := getD_at (f := fun k : Str => [D.str k]) (d := []) hl
  have hlt := zzi hl
  have hw : IntKind.i64.wrap ((done.length : Int) + 1) = ((done.length + 1 : Nat) : Int) := zze (by omega)
  simp only [zzM, go_sem, hx, hlt, lM, zqY]
  refine zzb (hf x) ?_
  cases e : (x == sV) with
  | true =>
   rw [zJ0 hl hI e] at hR
   simp only [e, go_sem] at hR ⊢
   exact hR
  | false =>
   simp only [e, go_sem, hw, lA]
   exact ⟨zzc (by simp only [go_sem, lA]), zyb hI e⟩
 ·intro hI
  rw [zKU hI] at hR
  simp only [zzM, go_sem, lM, ← hR]
theorem zKJ (l : List Str) (n cap : Nat) (hcap : l.length ≤ cap) (hc : cap = l.length + n) (hsm : l.length ≤ 1073741824) :
  E.C zzm [] (.bx [.vec 1000 1 0 l.length cap, .d (.clo zzy [])] [(1000, l.map scl ++ List.replicate n AV.undef)] [] (.vr 1000 1 0 (l.filter keepF).length cap) [(1000, delE l n)] []) := by
 have hix := zQ4 Z l
 refine Z.zzm _ _ ⟨bl rfl, bl rfl, rfl, ?_⟩
 have hrow := rowsStr l (List.replicate n AV.undef)
 have hfit : (l.length * 1 ≤ (l.map scl ++ List.replicate n AV.undef).length) = True := eq_true (by simp)
 simp only [zzW, go_sem, initA, AV.elemsM, hrow, hfit, zA, List.drop_zero]
 have hcv : toCVs [(1000, l.map scl ++ List.replicate n AV.undef)] 3 [.vec 1000 1 0 l.length cap, .d (.clo zzy [])] = some [.one (.lst (l.map fun k => [.str k])), .one (.clo zzy [])] := by
  have hf2 : (0 + l.length * 1 ≤ (l.map scl ++ List.replicate n AV.undef).length) = True := eq_true (by simp)
  have htk : (l.map scl ++ List.replicate n AV.undef).take (l.length * 1) = l.map scl := by
   rw [Nat.mul_one, List.take_append_of_le_length (by simp)]; exact List.take_of_length_le (by simp)
  simp only [go_sem, hf2, List.drop_zero, htk, yw5, yyT]
 refine zXs hcv rfl rfl hix ?_
 simp only [go_sem]
 cases hfi : l.findIdx? (fun x => x == sV) with
 | none =>
  have hix2 : ixQ (fun x => x == sV) l = -1 := by unfold ixQ; rw [hfi]
  have hall : ∀ x ∈ l, (x == sV) = false := List.findIdx?_eq_none_iff.1 hfi
  have hfl : l.filter keepF = l := List.filter_eq_self.2 fun x hx => by unfold keepF; rw [hall x hx]; rfl
  simp only [hix2, go_sem, Int.reduceBEq]
  unfold delE
  rw [hfl, Nat.sub_self, List.replicate_zero, List.append_nil]
  exact ⟨4, rfl, zzc (by simp only [go_sem, oS, zVw])⟩
 | some i0 =>
  obtain ⟨hi, h1, h2⟩ := List.findIdx?_eq_some_iff_getElem.1 hfi
  have hix2 : ixQ (fun x => x == sV) l = (i0 : Int) := by unfold ixQ; rw [hfi]
  have hne : ((i0 : Int) == -1) = false := by rw [beq_eq_false_iff_ne]; omega
  simp only [hix2, go_sem, hne]
  obtain ⟨A, x0, R, hl, hA⟩ : ∃ A x0 R, l = A ++ x0 :: R ∧ A.length = i0 := ⟨l.take i0, l[i0], l.drop (i0 + 1), by simp, by simp; omega⟩
  have hx0 : (x0 == sV) = true := by
   have : l[i0] = x0 := by simp [hl, ← hA]
   rw [← this]; exact h1
  have hAf : A.filter keepF = A := List.filter_eq_self.2 fun x hx => by
   obtain ⟨j, hj, rfl⟩ := List.getElem_of_mem hx
   have := h2 j (by omega)
   unfold keepF
   have e : l[j] = A[j] := by simp [hl, List.getElem_append_left hj]
   rw [e] at this
   simpa using this
  have hll : l.length = A.length + (R.length + 1) := by rw [hl]; simp
  have hw1 : IntKind.i64.wrap ((i0 : Int) + 1) = ((i0 + 1 : Nat) : Int) := zze (by omega)
  have hm0 : l.map scl ++ List.replicate n AV.undef = delC A l n := by
   unfold delC
   congr 2
   have : l.drop A.length = x0 :: R := by rw [hl]; simp
   rw [this, ← hl]
  rw [hm0]
  refine zzn fun K hK => ?_
  refine zzf R (fun _ => True) (fun done _ => ⟨[(6, .d (.int .i64 (i0 + 1 + done.length : Nat))), (5, .d (.int .i64 (A ++ done.filter keepF).length)), (0, .vec 1000 1 0 l.length cap), (1, .d (.clo zzy []))], [(1000, delC (A ++ done.filter keepF) l n)], []⟩) ?_ trivial ?_ ?_
  ·exact zzc (by simp only [go_sem, oS, hw1, List.filter_nil, List.append_nil, lN, Nat.add_zero, hA, zYk])
  ·intro done x r hR _
   have hfl : (done.filter keepF).length ≤ done.length := List.length_filter_le _ _
   have hdl : done.length < R.length := by rw [hR]; simp
   have hkl : (A ++ done.filter keepF).length ≤ i0 + 1 + done.length := by rw [lA]; omega
   have hlx : l[i0 + 1 + done.length]? = some x := by
    rw [hl, hR, List.getElem?_append_right (by omega)]
    have : i0 + 1 + done.length - A.length = done.length + 1 := by omega
    rw [this]; simp
   have hget := ywB (n := n) hkl hlx
   have hput := ywC (n := n) (x := x) (show (A ++ done.filter keepF).length < l.length by omega)
   have hclen := zQQ (n := n) (show (A ++ done.filter keepF).length ≤ l.length by omega)
   have hsnoc : A ++ (done ++ [x]).filter keepF = if keepF x then (A ++ done.filter keepF) ++ [x] else A ++ done.filter keepF := by
    rw [List.filter_append]; cases hk : keepF x <;> simp [hk]
   rw [hsnoc]
   generalize A ++ done.filter keepF = kept at *
   have hf : E.C zzy [.one (.str x)] (.one (.bool (x == sV))) := yym Z x
   have hlt : decide (((i0 + 1 + done.length : Nat) : Int) < (l.length : Int)) = true := by simp; omega
   have hlt2 : (((i0 + 1 + done.length : Nat) : Int) < (l.length : Int)) = True := eq_true (by omega)
   have hlt3 : ((kept.length : Int) < (l.length : Int)) = True := eq_true (by omega)
   have hfit2 : (i0 + 1 + done.length + 1 ≤ (delC kept l n).length) = True := eq_true (by rw [hclen]; omega)
   have hfit3 : (kept.length + 1 ≤ (delC kept l n).length) = True := eq_true (by rw [hclen]; omega)
   have hidx : 0 + (i0 + 1 + done.length) * 1 = i0 + 1 + done.length := by omega
   have hidx2 : 0 + kept.length * 1 = kept.length := by omega
   have hw2 : IntKind.i64.wrap (((i0 + 1 + done.length : Nat) : Int) + 1) = ((i0 + 1 + (done.length + 1) : Nat) : Int) := by rw [zze (by omega)]; rfl
   have hw3 : IntKind.i64.wrap ((kept.length : Int) + 1) = ((kept.length + 1 : Nat) : Int) := zze (by omega)
   have hent : ∀ m mp, EntCs m mp (delC kept l n) (delC kept l n) = True := fun m mp => zYk m mp kept l n
   have hent2 : ∀ m mp, EntCs m mp (delC (kept ++ [x]) l n) (delC (kept ++ [x]) l n) = True := fun m mp => zYk m mp _ l n
   have hkx : keepF x = !(x == sV) := rfl
   generalize hcs2 : delC (kept ++ [x]) l n = cs2 at *
   generalize hcs : delC kept l n = cs at *
   simp only [zzL, go_sem, hlt, hlt2, hfit2, hidx, hget]
   intro _
   refine zzb hf ?_
   cases hv : (x == sV) with
   | true =>
    simp only [hkx, hv, go_sem, hw2]
    exact zzc (by simp only [go_sem, oS, lA, lC, lN, zA, hcs, hent])
   | false =>
    simp only [hkx, hv, go_sem, hlt3, hfit3, hidx2, hw2, hw3, hput]
    exact zzc (by simp only [go_sem, oS, lA, lC, lN, zA, hcs2, hent2])
  ·intro _
   have hge : decide (((i0 + 1 + R.length : Nat) : Int) < (l.length : Int)) = false := by simp; omega
   have hfl : (R.filter keepF).length ≤ R.length := List.length_filter_le _ _
   have hkept : A ++ R.filter keepF = l.filter keepF := by
    have h0 : keepF x0 = false := by unfold keepF; rw [hx0]; rfl
    rw [hl, List.filter_append, hAf, List.filter_cons, h0]; rfl
   have hkl : (A ++ R.filter keepF).length < l.length := by rw [lA]; omega
   rw [hkept] at *
   have hclr := ywA (n := n) (Nat.le_of_lt hkl)
   have hclen := zQQ (n := n) (Nat.le_of_lt hkl)
   have hlek : (((l.filter keepF).length : Int) ≤ (l.length : Int)) = True := eq_true (by omega)
   have hnc : ((cap : Nat) = (l.filter keepF).length) = False := eq_false (by omega)
   have hfit4 : ((l.filter keepF).length + (l.length - (l.filter keepF).length) * 1 ≤ (delC (l.filter keepF) l n).length) = True := eq_true (by rw [hclen]; omega)
   have hnil : (if cap = 0 then (0 : Nat) else 0) = 0 := by split <;> rfl
   have hdel : delE l n = (l.filter keepF).map scl ++ List.replicate (l.length - (l.filter keepF).length) (scl []) ++ List.replicate n AV.undef := rfl
   have hent : ∀ m mp, EntCs m mp (delE l n) (delE l n) = True := fun m mp => eq_true (by
    rw [hdel]
    exact zxK (zxK (zvS _ _ _) (by have := zvS m mp (List.replicate (l.length - (l.filter keepF).length) []); rwa [List.map_replicate] at this)) (zZG _ _ _))
   rw [← hdel] at hclr
   generalize l.filter keepF = kept at *
   simp only [zzL, go_sem, hK, hge, hlek, hnc, hfit4, zA, Nat.mul_one, Nat.sub_zero, hnil]
   intro _
   simp only [Nat.mul_one] at hclr hfit4
   refine ⟨of_eq_true hfit4, ?_⟩
   rw [hclr]
   exact ⟨4, rfl, zzc (by simp only [go_sem, oS, hent])⟩
end Go.Abs
end
section
namespace Go.Abs
def Itoa45 (E : AEnv) : Prop := ∀ n : Int, -9223372036854775808 ≤ n → n ≤ 9223372036854775807 → E.C strconv_Itoa [.one (.int .i64 n)] (.one (.str (Lib.itoa n)))
def Clone45 (E : AEnv) : Prop := ∀ l : List Str, l.length ≤ 1073741824 → E.C zxE [.one (.lst (l.map fun k => [.str k]))] (.vc 1 (l.map fun k => [.str k]))
theorem yvR : ∀ n : Nat, n < 10 → List.drop n ((48 : UInt8) :: List.take n [49, 50, 51, 52, 53, 54, 55, 56, 57]) = [UInt8.ofNat (48 + n)] := by decide +kernel
theorem zqH (n : Nat) : Lib.itoa (n : Int) = Lib.decDigits n := by unfold Lib.itoa; rw [if_neg (by omega)]; rfl
theorem yyW (n : Nat) (h : n ≤ 4611686018427387904) : (Lib.decDigits n).length ≤ 21 := by
 have := Lib.itoa_length_le (n : Int) (by omega) (by omega)
 rwa [zqH] at this
variable {E : AEnv} (Z : Sys E)
include Z
theorem zWs (hI : Itoa45 E) (n : Int) (h1 : -9223372036854775808 ≤ n) (h2 : n ≤ 9223372036854775807) : E.C zjw [.one (.int .i64 n)] (.one (.str (Lib.itoa n))) := by
 have h := hI n h1 h2
 refine Z.zjw _ _ ⟨bl rfl, ?_⟩
 simp only [zXQ, go_sem]
 refine zzb h ?_
 simp only [go_sem]
theorem zYa (n : Nat) : n ≤ 4611686018427387904 → E.C zxA [.one (.int .i64 n)] (.one (.str (Lib.itoa (n : Int)))) := by
 induction n using Nat.strongRecOn with
 | ind n ih =>
  intro hn
  refine Z.zxA _ _ ⟨bl rfl, ?_⟩
  rw [zqH, Lib.decDigits]
  have hw : IntKind.i64.wrap ((n : Int) + 1) = ((n + 1 : Nat) : Int) := zze (by omega)
  by_cases h : n < 10
  ·have hlt : decide ((n : Int) < 10) = true := by simp; omega
   rw [dif_pos h]
   simp only [zjt, go_sem, hlt, hw]
   exact ⟨⟨by omega, by omega⟩, yvR n h⟩
  ·have hlt : decide ((n : Int) < 10) = false := by simp; omega
   have h1 := ih (n / 10) (by omega) (by omega)
   have h2 := ih (n % 10) (by omega) (by omega)
   have hd : (n : Int).tdiv 10 = ((n / 10 : Nat) : Int) := rfl
   have hm : (n : Int).tmod 10 = ((n % 10 : Nat) : Int) := rfl
   have hwd : IntKind.i64.wrap ((n / 10 : Nat) : Int) = ((n / 10 : Nat) : Int) := zKk (by omega) (by omega)
   rw [dif_neg h]
   simp only [zjt, go_sem, hlt, hd, hm, hwd]
   refine ⟨by omega, ?_⟩
   refine zzb h1 ?_
   simp only [go_sem, hlt, hd, hm, hwd]
   refine ⟨by omega, ?_⟩
   refine zzb h2 ?_
   have l1 := yyW (n / 10) (by omega)
   have l2 := yyW (n % 10) (by omega)
   have hsm : Lib.decDigits (n % 10) = [UInt8.ofNat (48 + n % 10)] := by rw [Lib.decDigits, dif_pos (by omega)]
   rw [← zqH] at l1 l2
   simp only [go_sem, zqH, hsm]
   rw [zqH] at l1; omega
theorem zYr (x p : Pred) : E.C zz9 [.agg x.cells, .one (.ref p.cells)] (.one (.bool (x.same p))) := by
 have h := zwY Z x p
 refine Z.zz9 _ _ ⟨bl rfl, ?_⟩
 rw [Pred.zzd x, Pred.zzd p] at *
 simp only [zvV, go_sem]
 refine zzb h ?_
 simp only [go_sem]
theorem yvA (l : List Pred) (p : Pred) : E.C zzg [.one (.lst (l.map Pred.cells)), .one (.clo zz9 [.ref p.cells])] (.one (.bool (hasP l p))) := by
 have := zkr Z zz9 [.ref p.cells] (fun x => p.same x) l fun x _ => by rw [zjd]; exact zYr Z x p
 exact this
end Go.Abs
end
section
namespace Go.Abs
theorem zWl {q : Pred} (h : Pred.err q = 0) : kidsOk q.op q.kids.length = true := by
 obtain ⟨o, s, n, ks⟩ := q
 change nodeE o s n ks = 0 at h
 unfold nodeE at h
 by_cases h1 : (decide (o < 1) || decide (o > 18) || !s == [] && !isOpNamed o || n != 0 && !(o == 1 || o == 2) || !kidsOk o ks.length) = true
 ·rw [if_pos h1] at h; cases h
 ·simp only [Bool.or_eq_true, not_or] at h1
  have := h1.2
  show kidsOk o (ks.length : Int) = true
  simpa using this
theorem yy0 {p : Pred} (h : p.checkE = 0) : ∀ q ∈ p.pre, Pred.err q = 0 := by
 have h := zwK h
 rw [Pred.zZs] at h
 exact zYm h
theorem yvf {p : Pred} (h : p.checkE = 0) : LeafVar p := fun q hq ho => by
 have := zWl (yy0 h q hq)
 rw [ho] at this
 have : q.kids.length = 0 := by simpa [kidsOk] using this
 exact List.eq_nil_of_length_eq_zero this
theorem ywG {p : Pred} (h : p.checkE = 0) : EqTwo p := fun q hq ho => by
 have := zWl (yy0 h q hq)
 simp only [Bool.or_eq_true, beq_iff_eq] at ho
 rcases ho with ho | ho <;> rw [ho] at this <;> simp [kidsOk] at this <;> omega
theorem zXO (l : List Str) : (((l.filter keepF).length : Int) == (l.length : Int)) = !l.contains sV := by
 have h1 : (l.filter keepF).length + (l.filter fun x => x == sV).length = l.length := by
  induction l with
  | nil => rfl
  | cons x l ih =>
   have hk : keepF x = !(x == sV) := rfl
   cases hx : (x == sV) <;> simp only [List.filter_cons, hk, hx] <;> simp <;> omega
 rw [Bool.eq_iff_iff, Bool.not_eq_true', beq_iff_eq]
 constructor
 ·intro h
  have : (l.filter fun x => x == sV).length = 0 := by omega
  rw [zvc]
  refine zwp fun x hx => ?_
  cases hxv : (x == sV) with
  | false => rfl
  | true =>
   have : x ∈ l.filter fun x => x == sV := List.mem_filter.2 ⟨hx, hxv⟩
   rw [List.eq_nil_of_length_eq_zero ‹(l.filter fun x => x == sV).length = 0›] at this
   cases this
 ·intro h
  rw [zvc] at h
  have : l.filter keepF = l := List.filter_eq_self.2 fun x hx => by
   have := List.any_eq_false.1 h x hx
   unfold keepF
   simpa using this
  rw [this]
def zeroQ : SQual := ⟨[], [], zeroP⟩
def badQ (c : Pred) : Bool := c.checkE != 0 || decide ((innerP 5 c []).length > 0) || appliedP c
def fromR (c : Pred) (s : Str) : SQual × Bool := if badQ c then (zeroQ, false) else (⟨[], fromP c s, c⟩, (orderP c []).contains sV && decide (((fromP c s).length : Int) ≤ 4))
theorem yxe (c : Pred) (s : Str) : (fromP c s).length = (othersP c).length + 1 := by simp [fromP]
theorem zVL (c : Pred) (s : Str) : (fromR c s).2 = goodQ c := by
 unfold fromR goodQ
 have h2 := zXO (orderP c [])
 have h1 : (((othersP c).length : Int) == ((orderP c []).length : Int)) = !(orderP c []).contains sV := h2
 have h3 : ((othersP c).length == (orderP c []).length) = !(orderP c []).contains sV := by
  rw [← h1, Bool.eq_iff_iff]; simp; omega
 have h4 : decide (((fromP c s).length : Int) ≤ 4) = !decide (((othersP c).length : Int) > 3) := by
  rw [yxe, Bool.eq_iff_iff]; simp; omega
 rw [h3, h4, ywY]
 unfold badQ
 cases c.checkE != 0 <;> cases (orderP c []).contains sV <;> cases decide (((othersP c).length : Int) > 3) <;> cases decide ((innerP 5 c []).length > 0) <;> cases appliedP c <;> rfl
theorem yvc {c : Pred} {s : Str} (h : goodQ c = true) : (fromR c s).1 = ⟨[], fromP c s, c⟩ := by
 rw [← zVL c s] at h
 unfold fromR at h ⊢
 split
 ·rename_i hb; rw [if_pos hb] at h; cases h
 ·rfl
theorem zWR : SQual.cells zeroQ = [.str [], .lst [], .int .i64 0, .str [], .int .i64 0, .lst []] := by
 unfold SQual.cells zeroQ; rw [zZB]; rfl
theorem yxp (done : List Str) (x : Str) : (done ++ [x]).filter keepF = if (x == sV) = true then done.filter keepF else done.filter keepF ++ [x] := by
 have hk : keepF x = !(x == sV) := rfl
 rw [List.filter_append, List.filter_cons, hk]
 cases x == sV <;> simp
variable {E : AEnv} (Z : Sys E)
include Z
theorem zQl (p : Pred) (s : Str) (hn : p.cnt ≤ 1048576) : E.C zqV [.agg p.cells, .one (.str s)] (.tup [.agg (fromR p s).1.cells, .one (.bool (fromR p s).2)]) := by
 have hck := zXa Z p
 have hho := zV9 Z p (by omega)
 have hap := zWX Z p
 have hnm := fun h => zJe Z p (yvf h) [] (by simp; omega)
 have his := fun h x => yxP Z x s p (ywG h)
 have hol := zqJ p []
 refine Z.zqV _ _ ⟨bl rfl, ?_⟩
 generalize hR : fromR p s = R
 unfold fromR badQ at hR
 rw [Pred.zzd p] at *
 simp only [zWb, go_sem]
 refine zzb hck ?_
 simp only [go_sem]
 refine zy8 (fun _ => hho) ?_
 simp only [go_sem, lM]
 intro hlen
 refine zy8 (fun _ => hap) ?_
 simp only [go_sem]
 have hg : decide (((innerP 5 p []).length : Int) > 0) = decide ((innerP 5 p []).length > 0) := by rw [Bool.eq_iff_iff]; simp
 rw [hg]
 cases c0 : (p.checkE != 0 || decide ((innerP 5 p []).length > 0) || appliedP p) with
 | true =>
  rw [c0] at hR
  subst hR
  simp only [if_true, zWR, go_sem, c0]
 | false =>
  rw [c0] at hR
  have hc0 : p.checkE = 0 := by
   simp only [Bool.or_eq_false_iff] at c0
   simpa using c0.1.1
  have hnm := hnm hc0
  have his := his hc0
  simp only [go_sem, c0] at hR ⊢
  refine zzb hnm ?_
  simp only [go_sem]
  refine ⟨by simp, ?_⟩
  have hoth : othersP p = (orderP p []).filter keepF := rfl
  have hcnt := zvc (orderP p []) sV
  have hfr : fromP p s = ⟨sV, s⟩ :: ((orderP p []).filter keepF).map (varOf p s) := rfl
  rw [hfr, hcnt] at hR
  generalize orderP p [] = ns at *
  refine zzn fun K hK => ?_
  refine zzf ns (fun _ => True) (fun done _ => ⟨[(9, .d (.int .i64 done.length)), (8, .d (.bool (done.any fun y => y == sV))), (7, .own 7 1 (ns.map fun k => [.str k])), (1, .d (.str s)), (2, .ptr 2 0), (4, .ptr 4 0), (6, .ptr 6 0)],
   [(6, [.d (.str []), .own 6 2 ((⟨sV, s⟩ :: (done.filter keepF).map (varOf p s)).map SVar.cells), .d (.int .i64 p.op), .d (.str p.name), .d (.int .i64 p.n), .d (.lst (p.kids.map Pred.cells))]),
    (4, [.d (.str []), .full [], .d (.int .i64 0), .d (.str []), .d (.int .i64 0), .full []]),
    (2, [.d (.int .i64 p.op), .d (.str p.name), .d (.int .i64 p.n), .d (.lst (p.kids.map Pred.cells))])], [(7, true), (6, true)]⟩) ?_ trivial ?_ ?_
  ·exact zkx 6 1 6 2 _ [[.str sV, .str s]] [(7, 31), (6, 6)] rfl rfl (by simp) rfl (by simp only [Ent0, go_sem, cN, oS, List.filter_nil, mN, mC, SVar.len2, List.any_nil, lN, nZ]; rfl)
  ·intro done x r hl _
   have hx := getD_at (f := fun k : Str => [D.str k]) (d := []) hl
   have hlt := zzi hl
   have hdl : done.length < ns.length := by rw [hl]; simp
   have hlen2 : ns.length ≤ 1048576 := by simpa using Nat.le_trans hol (by simpa using hn)
   have hw : IntKind.i64.wrap ((done.length : Int) + 1) = ((done.length + 1 : Nat) : Int) := zze (by omega)
   have his := his x
   have hfl : (done.filter keepF).length ≤ done.length := List.length_filter_le _ _
   have hany : (done ++ [x]).any (fun y => y == sV) = (done.any (fun y => y == sV) || x == sV) := by rw [List.any_append]; simp
   rw [yxp, hany]
   have hsv : (x == sV) = (x == [118]) := rfl
   rw [hsv]
   simp only [zvE, go_sem, lM, hx, hlt, zqY]
   intro _
   cases c1 : (x == [118]) with
   | true =>
    simp only [c1, go_sem, hw]
    refine zzo [(7, 7), (6, 6)] ?_
    simp only [go_sem, cN, oS, lA, lC, lN, zA, Bool.or_true]
    rfl
   | false =>
    simp only [c1, go_sem, hw, hx, hlt, zqY, lM]
    refine zzb his ?_
    simp only [go_sem, hw, hx, hlt, zqY, lM]
    cases c2 : boolP x s p with
    | true =>
     have hv : varOf p s x = ⟨x, [66, 111, 111, 108]⟩ := by unfold varOf; rw [c2]; rfl
     simp only [c2, go_sem]
     refine ⟨⟨by simp, by omega, by omega⟩, zzo [(7, 7), (6, 60)] ?_⟩
     simp only [go_sem, cN, oS, lA, lC, lN, zA, mA, mC, mN, hv, SVar.len2, Bool.or_false]
     rfl
    | false =>
     have hv : varOf p s x = ⟨x, [73, 110, 116]⟩ := by unfold varOf; rw [c2]; rfl
     simp only [c2, go_sem]
     refine ⟨⟨by simp, by omega, by omega⟩, zzo [(7, 7), (6, 60)] ?_⟩
     simp only [go_sem, cN, oS, lA, lC, lN, zA, mA, mC, mN, hv, SVar.len2, Bool.or_false]
     rfl
  ·intro _
   simp only [zvE, go_sem, lM, hK]
   try intro _
   rw [← hR]
   first
    | refine ⟨⟨?_, by simp only [lC, lM]⟩, ?_, by simp only [lC, lM]⟩
    | refine fun _ => ⟨⟨?_, by simp only [lC, lM]⟩, ?_, by simp only [lC, lM]⟩
    | refine ⟨fun _ => ⟨?_, by simp only [lC, lM]⟩, fun _ => ⟨?_, by simp only [lC, lM]⟩⟩
   all_goals simp only [SQual.cells, Pred.zzd p, mC]
end Go.Abs
end
section
namespace Go.Abs
def ofGo (s : Str) (out : List SQual) (l : List Pred) : List SQual := l.foldl (ofStep s) out
theorem zVV (s : Str) (out : List SQual) (l : List Pred) (c : Pred) : ofGo s out (l ++ [c]) = ofStep s (ofGo s out l) c := by simp [ofGo]
theorem zQB (s : Str) (l : List Pred) (p : Pred) : OfQ (l ++ [p]) s = ofGo s (OfQ l s) (splitP p) := by simp [OfQ, ofGo]
theorem yzU (s : Str) (out : List SQual) (c : Pred) : (ofStep s out c).length ≤ out.length + 1 := by
 unfold ofStep; split <;> simp
theorem zXA (s : Str) : ∀ (l : List Pred) (out : List SQual), (ofGo s out l).length ≤ out.length + l.length
 | [], out => by simp [ofGo]
 | c :: l, out => by
  have h1 := zXA s l (ofStep s out c)
  have h2 := yzU s out c
  have : ofGo s out (c :: l) = ofGo s (ofStep s out c) l := rfl
  rw [this, lC]; omega
theorem yyk (s : Str) (l : List Pred) : (OfQ l s).length ≤ Pred.cnts l := by
 have key : ∀ (l : List Pred) (out : List SQual), (l.foldl (fun out p => (splitP p).foldl (ofStep s) out) out).length ≤ out.length + Pred.cnts l := by
  intro l
  induction l with
  | nil => intro out; simp [Pred.cnts]
  | cons p l ih =>
   intro out
   rw [List.foldl_cons, Pred.cnts]
   have h1 := ih ((splitP p).foldl (ofStep s) out)
   have h2 := zXA s (splitP p) out
   have h3 := zwH p
   unfold ofGo at h2
   omega
 simpa [OfQ] using key l []
theorem zXG (s : Str) (out : List SQual) (c : Pred) : (ofStep s out c).map SQual.body = if goodQ c && !hasP (out.map SQual.body) c then out.map SQual.body ++ [c] else out.map SQual.body := by
 unfold ofStep; split <;> simp
theorem yyb {p : Pred} (hp : Tame p) : ∀ c ∈ splitP p, Tame c := by
 induction p using Pred.ind with
 | h o s n ks ih =>
 cases hc : (o == 15 && (ks.length : Int) == 2) with
 | true =>
  obtain ⟨ho, hk⟩ := Bool.and_eq_true_iff.1 hc
  have hk2 : ((ks.length : Nat) : Int) = 2 := by simpa using hk
  obtain ⟨a, b, rfl⟩ := zwx (l := ks) (by omega)
  have ho : o = 15 := by simpa using ho
  subst ho
  rw [zjh]
  intro c hc
  rcases List.mem_append.1 hc with hc | hc
  ·exact ih a (by simp) (hp.kid (by simp)) c hc
  ·exact ih b (by simp) (hp.kid (by simp)) c hc
 | false =>
  rw [zk8 hc]
  intro c hc
  split at hc
  ·cases hc
  ·simp at hc; subst hc; exact hp
theorem zJr {p : Pred} : ∀ c ∈ splitP p, c.cnt ≤ p.cnt := by
 induction p using Pred.ind with
 | h o s n ks ih =>
 cases hc : (o == 15 && (ks.length : Int) == 2) with
 | true =>
  obtain ⟨ho, hk⟩ := Bool.and_eq_true_iff.1 hc
  have hk2 : ((ks.length : Nat) : Int) = 2 := by simpa using hk
  obtain ⟨a, b, rfl⟩ := zwx (l := ks) (by omega)
  have ho : o = 15 := by simpa using ho
  subst ho
  rw [zjh]
  intro c hc
  simp only [Pred.cnt, Pred.cnts]
  rcases List.mem_append.1 hc with hc | hc
  ·have := ih a (by simp) c hc; omega
  ·have := ih b (by simp) c hc; omega
 | false =>
  rw [zk8 hc]
  intro c hc
  split at hc
  ·cases hc
  ·simp at hc; subst hc; exact Nat.le_refl _
theorem SQual.cellsE (q : SQual) : q.cells = [.str q.name, .lst (q.vars.map SVar.cells), .int .i64 q.body.op, .str q.body.name, .int .i64 q.body.n, .lst (q.body.kids.map Pred.cells)] := by rw [SQual.cells, Pred.zzd]
theorem itoa_len' (n : Nat) (h : n ≤ 1152921504606846976) : (Lib.itoa (n : Int)).length ≤ 21 := Lib.itoa_length_le _ (by omega) (by omega)
variable {E : AEnv} (Z : Sys E)
include Z
theorem yxO (l : List Pred) (s : Str) (hc : Pred.cnts l ≤ 1048576) : E.C zKA [.one (.lst (l.map Pred.cells)), .one (.str s)] (.one (.lst ((OfQ l s).map SQual.cells))) := by
 refine Z.zKA _ _ ⟨bl rfl, ?_⟩
 simp only [zVH, go_sem]
 refine zzn fun K hK => ?_
 refine zzf l (fun _ => True) (fun done _ => ⟨[(7, .d (.int .i64 done.length)), (0, .d (.lst (l.map Pred.cells))), (1, .d (.str s)), (5, .own 5 6 ((OfQ done s).map SQual.cells)), (6, .own 6 4 (((OfQ done s).map SQual.body).map Pred.cells))], [], [(5, true), (6, true)]⟩) ?_ trivial ?_ ?_
 ·exact zJw 5 5 6 [] 6 6 4 [] [(5, 5), (6, 6)] rfl (by simp) rfl rfl (by simp) rfl (by simp only [Ent0, go_sem, cN, oS, mN, lN, nZ, OfQ, List.foldl_nil]; rfl)
 ·intro done p r hl _
  have hxx := zzA hl
  have hlt := zzi hl
  have hcp : Pred.cnts done + p.cnt ≤ 1048576 := by
   have h2 : Pred.cnts l = Pred.cnts done + (p.cnt + Pred.cnts r) := by rw [hl, zZF, Pred.cnts]
   omega
  have hsp := zJa Z p (by omega)
  have hol := yyk s done
  have hspl := zwH p
  have hscnt := fun c hc => zJr (p := p) c hc
  rw [Pred.zzd p] at hxx hsp
  rw [zQB]
  generalize OfQ done s = out at *
  generalize splitP p = cs at *
  simp only [zj8, go_sem, lM, hxx, hlt, Pred.zzB]
  intro hlen
  have hw : IntKind.i64.wrap ((done.length : Int) + 1) = ((done.length + 1 : Nat) : Int) := zze (by have := zzi hl; omega)
  refine zzb hsp ?_
  simp only [go_sem]
  refine zzn fun K2 hK2 => ?_
  refine zzf cs (fun _ => True) (fun d _ => ⟨[(9, .d (.int .i64 d.length)), (8, .d (.lst (cs.map Pred.cells))), (7, .d (.int .i64 done.length)), (0, .d (.lst (l.map Pred.cells))), (1, .d (.str s)), (5, .own 5 6 ((ofGo s out d).map SQual.cells)), (6, .own 6 4 (((ofGo s out d).map SQual.body).map Pred.cells))], [], [(5, true), (6, true)]⟩) ?_ trivial ?_ ?_
  ·exact zzo [(5, 5), (6, 6)] (by simp only [go_sem, cN, oS, lN, nZ, ofGo, List.foldl_nil]; rfl)
  ·intro d c r2 hl2 _
   have hxx2 := zzA hl2
   have hlt2 := zzi hl2
   have hdl2 : d.length < cs.length := by rw [hl2]; simp
   have hcm : c ∈ cs := by rw [hl2]; simp
   have hw2 : IntKind.i64.wrap ((d.length : Int) + 1) = ((d.length + 1 : Nat) : Int) := zze (by omega)
   have hfr := zQl Z c s (by have := hscnt c hcm; omega)
   have hol2 := zXA s d out
   rw [zVV, zXG]
   generalize ofGo s out d = o2 at *
   have hhas := zXb Z (o2.map SQual.body) c
   have hdg := zYa Z o2.length (by omega)
   have hln := itoa_len' o2.length (by omega)
   have hgd := zVL c s
   have hst : ofStep s o2 c = if goodQ c && !hasP (o2.map SQual.body) c then o2 ++ [⟨qName 113 o2.length, fromP c s, c⟩] else o2 := rfl
   rw [hst, ← hgd]
   have hfe : (fromR c s).2 = true → (fromR c s).1 = ⟨[], fromP c s, c⟩ := fun h => yvc (by rw [← hgd]; exact h)
   rw [SQual.cellsE] at hfr
   rw [Pred.zzd c] at hxx2 hfr hhas
   generalize fromR c s = fr at *
   obtain ⟨q, ok⟩ := fr
   simp only [zj7, go_sem, lM, hxx2, hlt2, Pred.zzB]
   intro _
   refine zzb hfr ?_
   simp only [go_sem, lM, hxx2, hlt2, Pred.zzB]
   refine zy8 (fun _ => hhas) ?_
   simp only [go_sem]
   cases hc0 : (ok && !hasP (o2.map SQual.body) c) with
   | false =>
    have hc1 : (!ok || hasP (o2.map SQual.body) c) = true := by rw [← Bool.not_not (hasP _ _), ← Bool.not_and, hc0]; rfl
    simp only [hc0, hc1, go_sem, hw2]
    refine zzo [(5, 5), (6, 6)] ?_
    simp only [go_sem, cN, oS, lA, lC, lN, zA]
    rfl
   | true =>
    have hc1 : (!ok || hasP (o2.map SQual.body) c) = false := by rw [← Bool.not_not (hasP _ _), ← Bool.not_and, hc0]; rfl
    obtain ⟨ho, hh⟩ := Bool.and_eq_true_iff.1 hc0
    have hfe := hfe ho
    have hfe : q = ⟨[], fromP c s, c⟩ := hfe
    subst hfe
    simp only [hc0, hc1, go_sem, hxx2, hlt2, Pred.zzB, lM]
    refine ⟨⟨by simp, by omega, by omega⟩, ?_⟩
    intro _
    refine zzb hdg ?_
    simp only [go_sem]
    refine ⟨by omega, ⟨by simp, by omega, by omega⟩, zzo [(5, 63), (6, 54)] ?_⟩
    simp only [go_sem, hw2, cN, oS, lA, lC, lN, zA, mA, mC, mN, Pred.zzd c, SQual.cells, qName, List.cons_append, List.nil_append]
    rfl
  ·intro _
   simp only [zj7, go_sem, lM, hK2, hw]
   exact fun _ => zzo [(5, 5), (6, 6)] (by simp only [go_sem, cN, oS, lA, lC, lN, zA]; rfl)
 ·intro _
  simp only [zj8, go_sem, lM, hK]
end Go.Abs
end
section
namespace Go.Abs
theorem zWq (σ τ : TMap) : ∀ l : List Str, Matches σ τ (l.map scl) (l.map scl)
 | [] => trivial
 | _ :: l => ⟨rfl, zWq σ τ l⟩
def rowS (l : List Str) (n : Nat) : List AV := l.map scl ++ List.replicate n AV.undef
theorem ywU (l : List Str) : (l.map fun k => [D.str k]).flatten.map AV.d = l.map scl := by
 induction l with
 | nil => rfl
 | cons x l ih => rw [mC, List.flatten_cons, mA, ih]; rfl
theorem zVU (σ τ : TMap) (l : List Str) (n : Nat) : Matches σ τ (rowS l n) (rowS l n) := zZv (zWq σ τ l) (zju σ τ n)
theorem yys (l : List Str) : ∀ a ∈ l.map scl, ∃ s, a = scl s := fun a ha => by obtain ⟨s, _, rfl⟩ := List.mem_map.1 ha; exact ⟨s, rfl⟩
theorem zKO {l : List Str} {n : Nat} {a : AV} (h : a ∈ delE l n) : (∃ s, a = scl s) ∨ a = .undef := by
 unfold delE at h
 rcases List.mem_append.1 h with h | h
 ·rcases List.mem_append.1 h with h | h
  ·exact .inl (yys _ _ h)
  ·exact .inl ⟨[], List.eq_of_mem_replicate h⟩
 ·exact .inr (List.eq_of_mem_replicate h)
theorem yyX (l : List Str) (n : Nat) : (delE l n).all keep1 = true := List.all_eq_true.2 fun a ha => by
 rcases zKO ha with ⟨s, rfl⟩ | rfl <;> rfl
theorem yxA {l : List AV} (h : ∀ a ∈ l, (∃ s, a = scl s) ∨ a = .undef) : isMp l = false := by
 cases hl : isMp l with
 | false => rfl
 | true =>
  obtain ⟨k, e, kvs, h2⟩ := zyi.1 hl
  have := h (AV.mp k e kvs) (by rw [h2]; simp)
  rcases this with ⟨s, e⟩ | e <;> cases e
theorem zJm (l : List Str) (n : Nat) : isMp (rowS l n) = false := yxA fun a ha => by
 rcases List.mem_append.1 ha with h | h
 ·exact .inl (yys _ _ h)
 ·exact .inr (List.eq_of_mem_replicate h)
theorem yyY (l : List Str) (n : Nat) : isMp (delE l n) = false := yxA fun _ ha => zKO ha
theorem yko (σ τ : TMap) {l : List AV} (h : ∀ a ∈ l, (∃ s, a = scl s) ∨ a = .undef) : l.map (AV.ren1 σ τ) = l := by
 induction l with
 | nil => rfl
 | cons a l ih =>
  rw [mC, ih fun b hb => h b (by simp [hb])]
  rcases h a (by simp) with ⟨s, rfl⟩ | rfl <;> rfl
theorem ywD {l : List Str} {n j : Nat} {x : Str} (hx : (l.filter keepF)[j]? = some x) : ((delE l n).drop j).take 1 = [.d (.str x)] ∧ j + 1 ≤ (delE l n).length := by
 have e : (delE l n)[j]? = some (scl x) := by
  have hj : j < (l.filter keepF).length := (List.getElem?_eq_some_iff.1 hx).1
  unfold delE
  rw [List.append_assoc, List.getElem?_append_left (by simpa using hj), List.getElem?_map, hx]; rfl
 have hlt : j < (delE l n).length := (List.getElem?_eq_some_iff.1 e).1
 refine ⟨?_, hlt⟩
 rw [List.drop_eq_getElem_cons hlt]
 have : (delE l n)[j] = scl x := (List.getElem?_eq_some_iff.1 e).2
 rw [this]; rfl
theorem yzA (m : Mem) (mp : TMap) (l : List Str) (n : Nat) : EntCs m mp (delE l n) (delE l n) = True := eq_true (by
 unfold delE
 exact zxK (zxK (zvS _ _ _) (by have := zvS m mp (List.replicate (l.length - (l.filter keepF).length) []); rwa [List.map_replicate] at this)) (zZG _ _ _))
variable {E : AEnv} (Z : Sys E)
include Z
theorem zYf : E.C zzm [.one (.lst []), .one (.clo zzy [])] (.one (.lst [])) := by
 have hix := zQ4 Z []
 refine Z.zzm _ _ ⟨bl rfl, ?_⟩
 have hz : ixQ (fun x => x == sV) ([] : List Str) = -1 := rfl
 rw [hz] at hix
 simp only [zzW, go_sem]
 refine zzb hix ?_
 simp only [go_sem, Int.reduceBEq]
theorem zql (hck : ∀ p, E.C zxv [.agg (Pred.cells p)] (.one (.int .i64 p.checkE))) (hI : Itoa45 E) (hcl : Clone45 E) (hbo : ∀ (name t : Str) (p : Pred), E.C zzD [.agg p.cells, .one (.str name), .one (.str t)] (.one (.bool (boolP name t p))))
  (l : List Pred) (s : Str) (hc : Pred.cnts l ≤ 1048576) : E.C zxj [.one (.lst (l.map Pred.cells)), .one (.str s)] (.one (.lst ((OfQ l s).map SQual.cells))) := by
 refine Z.zxj _ _ ⟨bl rfl, ?_⟩
 simp only [zj2, go_sem, lM]
 intro hlen
 refine zzn fun K hK => ?_
 refine zzf l (fun _ => True) (fun done _ => ⟨[(18, .d (.int .i64 l.length)), (19, .d (.int .i64 done.length)), (17, .d (.lst (l.map Pred.cells))), (1, .d (.str s)), (6, .own 6 6 ((OfQ done s).map SQual.cells)), (5, .own 5 4 (((OfQ done s).map SQual.body).map Pred.cells))], [], [(6, true), (5, true)]⟩) ?_ trivial ?_ ?_
 ·exact zJw 6 6 6 [] 5 5 4 [] [(6, 6), (5, 5)] rfl (by simp) rfl rfl (by simp) rfl (by simp only [Ent0, go_sem, cN, oS, mN, lN, nZ, OfQ, List.foldl_nil]; rfl)
 ·intro done p r hl _
  have hxx := zzA hl
  have hlt := zzi hl
  have hw : IntKind.i64.wrap ((done.length : Int) + 1) = ((done.length + 1 : Nat) : Int) := zze (by have := zzi hl; omega)
  have hcp : Pred.cnts done + p.cnt ≤ 1048576 := by
   have h2 : Pred.cnts l = Pred.cnts done + (p.cnt + Pred.cnts r) := by rw [hl, zZF, Pred.cnts]
   omega
  have htp : Tame p := zz6 p (by omega)
  have hsp := zK2 Z p htp (by omega)
  have hol := yyk s done
  have hspl := zwH p
  have hscnt := fun c hc => zJr (p := p) c hc
  have hstm := fun c hc => yyb (p := p) htp c hc
  rw [Pred.zzd p] at hxx hsp
  rw [zQB]
  generalize OfQ done s = out at *
  generalize splitP p = cs at *
  simp only [zwb, go_sem, lM, hxx, hlt, Pred.zzB]
  refine zzb hsp ?_
  simp only [go_sem, lM]
  intro _
  refine zzn fun K2 hK2 => ?_
  refine zzf cs (fun _ => True) (fun d _ => ⟨[(25, .d (.int .i64 cs.length)), (26, .d (.int .i64 d.length)), (24, .own 24 4 (cs.map Pred.cells)), (18, .d (.int .i64 l.length)), (19, .d (.int .i64 done.length)), (17, .d (.lst (l.map Pred.cells))), (1, .d (.str s)), (6, .own 6 6 ((ofGo s out d).map SQual.cells)), (5, .own 5 4 (((ofGo s out d).map SQual.body).map Pred.cells))], [], [(24, true), (6, true), (5, true)]⟩) ?_ trivial ?_ ?_
  ·exact zzo [(24, 24), (6, 6), (5, 5)] (by simp only [go_sem, cN, oS, lN, nZ, ofGo, List.foldl_nil]; and_intros <;> rfl)
  ·intro d c r2 hl2 _
   have hxx2 := zzA hl2
   have hlt2 := zzi hl2
   have hdl2 : d.length < cs.length := by rw [hl2]; simp
   have hcm : c ∈ cs := by rw [hl2]; simp
   have hcc := hscnt c hcm
   have hw2 : IntKind.i64.wrap ((d.length : Int) + 1) = ((d.length + 1 : Nat) : Int) := zze (by omega)
   have hor := zZ8 Z c [] (by simp; omega)
   have holn := zqJ c []
   have hcl := hcl (orderP c []) (by simp at holn; omega)
   have hck := hck c
   have hhd := zZ7 Z c
   have hol2 := zXA s d out
   rw [zVV, zXG]
   generalize ofGo s out d = o2 at *
   have hseen := yvA Z (o2.map SQual.body) c
   have hst : ofStep s o2 c = if goodQ c && !hasP (o2.map SQual.body) c then o2 ++ [⟨qName 113 o2.length, fromP c s, c⟩] else o2 := rfl
   rw [hst]
   have hgq : goodQ c = !(c.checkE != 0 || (othersP c).length == (orderP c []).length || decide (((othersP c).length : Int) > 3) || holedP c) := rfl
   have hoth : othersP c = (orderP c []).filter keepF := rfl
   rw [Pred.zzd c] at hxx2 hor hck hhd hseen
   simp only [zwa, go_sem, lM, hxx2, hlt2, Pred.zzB]
   refine zzb hor ?_
   simp only [go_sem, lM]
   refine ⟨by simp, ?_⟩
   refine zzb hcl ?_
   rw [zQI]
   refine ⟨⟨rfl, rfl, rfl⟩, fun he => ?_, fun hne cap hcap hcap2 => ?_⟩
   ·have he : orderP c [] = [] := by simpa using he
    have hoe : othersP c = [] := by rw [hoth, he]; rfl
    have hg0 : goodQ c = false := by rw [hgq, hoe, he]; cases (c.checkE != 0) <;> rfl
    simp only [go_sem, hg0, he]
    refine zzb (zYf Z) ?_
    simp only [go_sem]
    refine zzb hck ?_
    simp only [go_sem, lN, nZ, Int.reduceBEq]
    refine ⟨.one (.bool false), ?_⟩
    simp only [go_sem]
    refine zW2 ?_
    simp only [go_sem, hw2]
    refine zzo [(24, 24), (6, 6), (5, 5)] ?_
    simp only [go_sem, cN, oS, lA, lC, lN, zA]
    and_intros <;> rfl
   ·have hne : orderP c [] ≠ [] := by simpa using hne
    generalize orderP c [] = ns at *
    obtain ⟨n, rfl⟩ : ∃ n, cap = ns.length + n := ⟨cap - ns.length, by simp at hcap; omega⟩
    have hdel := zKJ Z ns n (ns.length + n) (by omega) rfl (by simp at holn; omega)
    have hrow : (ns.map fun k => [D.str k]).flatten.map AV.d ++ List.replicate ((ns.length + n) * 1 - (ns.map fun k => [D.str k]).length * 1) AV.undef = rowS ns n := by
     rw [ywU, lM]
     have : (ns.length + n) * 1 - ns.length * 1 = n := by omega
     rw [this]; rfl
    rw [hrow, lM]
    simp only [go_sem]
    refine zQJ ⟨[(1000, 33)], [], [], [.vec 1000 1 0 ns.length (ns.length + n), .d (.clo zzy [])], [(1000, rowS ns n)], [(1000, delE ns n)], .vr 1000 1 0 (ns.filter keepF).length (ns.length + n)⟩ hdel rfl rfl ?_ ?_
    ·exact ⟨⟨rfl, rfl, trivial⟩, matchMem1 (by omega) rfl (zVU _ _ _ _) (zJm _ _), trivial, rfl, rfl, rfl, rfl, by simp only [mC, mN, zJm, yyY], fun p hp => (by rw [List.mem_singleton.1 hp]; exact yyX _ _), trivial, rfl, rfl⟩
    have hren : (delE ns n).map (AV.ren1 [(1000, 33)] []) = delE ns n := yko _ _ fun a ha => zKO ha
    simp only [afterB, renMem, hren, getTM, if_true, Option.getD_some, newAll, killAll, List.nil_append, List.singleton_append, CV.toAV0, AV.ren0]
    have hbo := fun x => hbo x s c
    rw [Pred.zzd c] at hbo
    have hge : decide (((othersP c).length : Int) > 3) = decide (((ns.filter keepF).length : Int) > 3) := by rw [hoth]
    have hnl : ns.length ≤ 1048576 := by simp at holn; omega
    have hkl : (ns.filter keepF).length ≤ ns.length := List.length_filter_le _ _
    have hgq' : goodQ c = !(c.checkE != 0 || ((ns.filter keepF).length : Int) == (ns.length : Int) || decide (((ns.filter keepF).length : Int) > 3) || holedP c) := by
     rw [hgq, hoth]
     have : ((ns.filter keepF).length == ns.length) = (((ns.filter keepF).length : Int) == (ns.length : Int)) := (natBeq _ _).symm
     rw [this]
    simp only [go_sem]
    refine zzb hck ?_
    simp only [go_sem, lM]
    intro _ _ _
    refine zy8 (fun _ => hhd) ?_
    simp only [go_sem, lM]
    cases hb0 : (c.checkE != 0 || ((ns.filter keepF).length : Int) == (ns.length : Int) || decide (((ns.filter keepF).length : Int) > 3) || holedP c) with
    | true =>
     rw [hb0] at hgq'
     rw [hgq']
     simp only [hb0, go_sem]
     refine zW2 ?_
     simp only [go_sem, hw2]
     refine zzo [(24, 24), (6, 6), (5, 5)] ?_
     simp only [go_sem, cN, oS, lA, lC, lN, zA]
     and_intros <;> rfl
    | false =>
    rw [hb0] at hgq'
    rw [hgq']
    simp only [hb0, go_sem]
    refine zXs (cvs := [.one (.lst ((o2.map SQual.body).map Pred.cells)), .one (.clo zz9 [.ref [.int .i64 c.op, .str c.name, .int .i64 c.n, .lst (c.kids.map Pred.cells)]])]) rfl rfl (fun _ => rfl) hseen ?_
    simp only [go_sem]
    cases hc0 : hasP (o2.map SQual.body) c with
    | true =>
     simp only [hc0, go_sem, hw2]
     refine zzo [(24, 24), (6, 6), (5, 5)] ?_
     simp only [go_sem, cN, oS, lA, lC, lN, zA]
     and_intros <;> rfl
    | false =>
     have htx := zWs Z hI (o2.length : Int) (by omega) (by omega)
     have hln := itoa_len' o2.length (by omega)
     have hfp : fromP c s = ⟨sV, s⟩ :: (ns.filter keepF).map (varOf c s) := by unfold fromP; rw [hoth]
     simp only [hc0, go_sem, lM]
     refine ⟨⟨by simp, by omega, by omega⟩, ?_⟩
     refine zzb htx ?_
     simp only [go_sem, lM]
     refine ⟨by omega, ?_⟩
     rw [hfp]
     intro _
     have hdg : ∀ j x, (ns.filter keepF)[j]? = some x → _ := fun j x h => ywD (n := n) h
     have hed : ∀ m mp, EntCs m mp (delE ns n) (delE ns n) = True := fun m mp => yzA m mp ns n
     generalize hcap0 : ns.length + n = cap0 at *
     generalize hdl0 : delE ns n = dl at *
     generalize hkp : ns.filter keepF = kept at *
     refine zzn fun K3 hK3 => ?_
     refine zzf kept (fun _ => True) (fun dn _ => ⟨[(73, .d (.int .i64 kept.length)), (74, .d (.int .i64 dn.length)), (72, .vec 33 1 0 kept.length cap0), (10, .ptr 10 0), (13, .ptr 13 0), (25, .d (.int .i64 cs.length)), (26, .d (.int .i64 d.length)), (24, .own 24 4 (cs.map Pred.cells)), (18, .d (.int .i64 l.length)), (19, .d (.int .i64 done.length)), (17, .d (.lst (l.map Pred.cells))), (1, .d (.str s)), (6, .own 6 6 (o2.map SQual.cells)), (5, .own 5 4 ((o2.map SQual.body ++ [c]).map Pred.cells))],
      [(33, dl), (10, [.d (.int .i64 c.op), .d (.str c.name), .d (.int .i64 c.n), .d (.lst (c.kids.map Pred.cells))]), (13, [.d (.str (qName 113 o2.length)), .own 13 2 ((⟨sV, s⟩ :: dn.map (varOf c s)).map SVar.cells), .d (.int .i64 c.op), .d (.str c.name), .d (.int .i64 c.n), .d (.lst (c.kids.map Pred.cells))])], [(24, true), (6, true), (5, true), (13, true)]⟩) ?_ trivial ?_ ?_
     ·exact zkx 13 1 13 2 _ [[.str sV, .str s]] [(24, 24), (6, 6), (5, 62), (13, 13)] rfl rfl (by simp) rfl (by simp only [Ent0, go_sem, cN, oS, mN, mC, SVar.len2, lN, nZ, hed, mA, Pred.zzd c, qName, List.cons_append, List.nil_append]; and_intros <;> rfl)
     ·intro dn x r3 hl3 _
      have hx3 : kept[dn.length]? = some x := by rw [hl3]; simp
      obtain ⟨hg1, hg2⟩ := hdg _ _ hx3
      have hg2' : (0 + dn.length * 1 + 1 ≤ dl.length) = True := eq_true (by omega)
      have hi0 : 0 + dn.length * 1 = dn.length := by omega
      have hlt3 := zzi hl3
      have hdl3 : dn.length < kept.length := by rw [hl3]; simp
      have hw3 : IntKind.i64.wrap ((dn.length : Int) + 1) = ((dn.length + 1 : Nat) : Int) := zze (by omega)
      have hg2'' : (dn.length + 1 ≤ dl.length) = True := eq_true hg2
      have hbx := hbo x
      simp only [zx9, go_sem, hlt3, hi0, hg1, hg2'']
      refine zzb hbx ?_
      simp only [go_sem]
      cases c2 : boolP x s c with
      | true =>
       have hv : varOf c s x = ⟨x, [66, 111, 111, 108]⟩ := by unfold varOf; rw [c2]; rfl
       simp only [c2, go_sem, hw3, lM, lC]
       refine ⟨⟨by simp, by omega, by omega⟩, zzo [(24, 24), (6, 6), (5, 5), (13, 88)] ?_⟩
       simp only [go_sem, hed, cN, oS, lA, lC, lN, zA, mA, mC, mN, hv, SVar.len2]
       and_intros <;> rfl
      | false =>
       have hv : varOf c s x = ⟨x, [73, 110, 116]⟩ := by unfold varOf; rw [c2]; rfl
       simp only [c2, go_sem, hw3, lM, lC]
       refine ⟨⟨by simp, by omega, by omega⟩, zzo [(24, 24), (6, 6), (5, 5), (13, 88)] ?_⟩
       simp only [go_sem, hed, cN, oS, lA, lC, lN, zA, mA, mC, mN, hv, SVar.len2]
       and_intros <;> rfl
     ·intro _
      simp only [zx9, go_sem, hK3, hw2, lM, mC]
      refine ⟨⟨by simp, by omega, by omega⟩, zzo [(24, 24), (6, 94), (5, 5)] ?_⟩
      simp only [go_sem, cN, oS, lA, lC, lN, zA, mA, mC, mN, SQual.cellsE]
      and_intros <;> rfl
  ·intro _
   simp only [zwa, go_sem, lM, hK2, hw]
   exact zzo [(6, 6), (5, 5)] (by simp only [go_sem, cN, oS, lA, lC, lN, zA]; rfl)
 ·intro _
  simp only [zwb, go_sem, lM, hK]
end Go.Abs
end
section
namespace Go.Abs
def qv : Pred := pv_q [118]
def qx : Pred := pv_q [120]
def qz : Pred := .mk 1 [] 0 []
def q2 (o : Int) (a b : Pred) : Pred := .mk o [] 0 [a, b]
def oneB : List Pred := [q2 12 qv qz, q2 13 qv qz, q2 10 qv qz, q2 13 qz qv, q2 12 qz qv]
def twoB : List Pred := [q2 10 qv qx, q2 12 qv qx, q2 13 qv qx, q2 13 qx qv, q2 12 qx qv]
def basicB (p : Pred) (s : Str) (more : Bool) (n : Nat) : SQual := ⟨qName 98 n, ⟨[118], s⟩ :: (if more then [⟨[120], s⟩] else []), p⟩
def addB (out : List SQual) (p : Pred) (s : Str) (more : Bool) : List SQual := out ++ [basicB p s more out.length]
def basicS : List SQual := addB (addB (addB (twoB.foldl (fun o p => addB o p sInt true) (oneB.foldl (fun o p => addB o p sInt false) [])) qv sBool false) (.mk 14 [] 0 [qv]) sBool false) (q2 18 qv qx) sBool true
def rowB (d : Nat) (q : SQual × Nat) : List D := .str (if q.2 < d then qName 98 q.2 else []) :: .lst (q.1.vars.map SVar.cells) :: q.1.body.cells
def cellsB (d : Nat) : List AV := ((basicS.zipIdx.map (rowB d)).flatten).map .d
theorem lt13 {d : Nat} (h : d < 13) : d = 0 ∨ d = 1 ∨ d = 2 ∨ d = 3 ∨ d = 4 ∨ d = 5 ∨ d = 6 ∨ d = 7 ∨ d = 8 ∨ d = 9 ∨ d = 10 ∨ d = 11 ∨ d = 12 := by omega
theorem zJL {d : Nat} (h : d < 13) : (cellsB d).take (d * 6) ++ [.d (.str (98 :: Lib.itoa (d : Int)))] ++ (cellsB d).drop (d * 6 + 1) = cellsB (d + 1) := by
 rcases lt13 h with rfl | rfl | rfl | rfl | rfl | rfl | rfl | rfl | rfl | rfl | rfl | rfl | rfl <;> rfl
theorem zYj {d : Nat} (h : d ≤ 13) : (cellsB d).length = 78 := by
 have : d = 13 ∨ d < 13 := by omega
 rcases this with rfl | h
 ·rfl
 ·rcases lt13 h with rfl | rfl | rfl | rfl | rfl | rfl | rfl | rfl | rfl | rfl | rfl | rfl | rfl <;> rfl
theorem yvT (m : Mem) (k : Nat) (l : List D) : (l.map AV.d).mapM (AV.toD m (k + 1)) = some l := by
 induction l with
 | nil => rfl
 | cons x l ih => rw [mC, List.mapM_cons, ih]; rfl
theorem zYB (p : Pred) (s : Str) (more : Bool) (n : Nat) : (basicB p s more n).cells = [.str (qName 98 n), .lst ([.str [118], .str s] :: (if more then [[.str [120], .str s]] else [])), .int .i64 p.op, .str p.name, .int .i64 p.n, .lst (p.kids.map Pred.cells)] := by
 rw [SQual.cellsE]; cases more <;> rfl
theorem okAdd {st : St} {az as0 : List AV} {os os' : List (List D)} {u u' : Nat} (hm : getM st.mem 7 = some [.own u 6 os]) (ht : getT st.tk u = some true) (ht' : getT st.tk u' = none) (hv : MatchVs [(1000, 7)] [(2000, u)] az as0) :
  okB st az ⟨[(1000, 7)], [(2000, u)], [(2000, u')], as0, [(1000, [.own 2000 6 os])], [(1000, [.own 2000 6 os'])], .tup []⟩ := by
 refine ⟨hv, ⟨⟨rfl, by decide, ?_⟩, trivial⟩, ⟨⟨rfl, ht⟩, trivial⟩, rfl, rfl, rfl, rfl, rfl, fun q hq => (by rw [List.mem_singleton.1 hq]; rfl), ⟨ht', trivial⟩, rfl, by simp [noTwice]⟩
 simp only [hm]
 exact ⟨rfl, trivial⟩
variable {E : AEnv} (Z : Sys E)
include Z
theorem yzi (o : Int) (a b : Pred) : E.C zzR [.one (.int .i64 o), .agg a.cells, .agg b.cells] (.agg (q2 o a b).cells) := by
 refine Z.zzR _ _ ⟨bl rfl, ?_⟩
 rw [q2, Pred.zzd (.mk _ _ _ _), Pred.zzd a, Pred.zzd b]
 simp only [zke, go_sem, Pred.op, Pred.name, Pred.n, Pred.kids, mC, mN, Pred.zzd a, Pred.zzd b]
theorem yzj (hI : Itoa45 E) (p : Pred) (s : Str) (more : Bool) (out : List SQual) (ho : out.length ≤ 1048576) :
  E.C zzS [] (.bx [.agg (p.cells.map .d), .d (.str s), .d (.bool more), .ptr 1000 0] [(1000, [.own 2000 6 (out.map SQual.cells)])] [(2000, true)] (.tup []) [(1000, [.own 2000 6 ((addB out p s more).map SQual.cells)])] [(2000, true)]) := by
 have htx := zWs Z hI (out.length : Int) (by omega) (by omega)
 have hln := itoa_len' out.length (by omega)
 refine Z.zzS _ _ ⟨bl rfl, bl rfl, rfl, ?_⟩
 rw [Pred.zzd p]
 simp only [zkf, go_sem, initA, mC, mN, lM]
 refine zzb htx ?_
 simp only [go_sem]
 refine ⟨by omega, ?_⟩
 unfold addB
 cases more with
 | true =>
  simp only [go_sem]
  refine ⟨⟨by simp, by simp, by decide⟩, ⟨by simp, by omega, by omega⟩, rfl, zzo [(2000, 28)] ?_⟩
  simp only [go_sem, cN, oS, mA, mC, mN, zYB, qName, List.cons_append, List.nil_append]
 | false =>
  simp only [go_sem]
  refine ⟨⟨by simp, by omega, by omega⟩, rfl, zzo [(2000, 28)] ?_⟩
  simp only [go_sem, cN, oS, mA, mC, mN, zYB, qName, List.cons_append, List.nil_append]
theorem zvn (hI : Itoa45 E) : E.C zyc [] (.one (.lst (basicS.map SQual.cells))) := by
 have h1 := fun o a b => yzi Z o a b
 refine Z.zyc _ _ ⟨bl rfl, ?_⟩
 have hv : qv.cells = [.int .i64 3, .str [118], .int .i64 0, .lst []] := zyj _
 have hx : qx.cells = [.int .i64 3, .str [120], .int .i64 0, .lst []] := zyj _
 have hz : qz.cells = [.int .i64 1, .str [], .int .i64 0, .lst []] := by rw [qz, Pred.zzd]; rfl
 have hvz := fun o => h1 o qv qz
 have hzv := fun o => h1 o qz qv
 have hvx := fun o => h1 o qv qx
 have hxv := fun o => h1 o qx qv
 rw [hv, hz] at hvz hzv
 rw [hv, hx] at hvx hxv
 have hc4 : ∀ p : Pred, p.cells.length = 4 := Pred.zzu
 simp only [zve, go_sem]
 refine zzb (hvz 12) ?_
 simp only [go_sem]
 refine zzb (hvz 13) ?_
 simp only [go_sem]
 refine zzb (hvz 10) ?_
 simp only [go_sem]
 refine zzb (hzv 13) ?_
 simp only [go_sem]
 refine zzb (hzv 12) ?_
 simp only [go_sem, hc4]
 refine zzb (hvx 10) ?_
 simp only [go_sem]
 refine zzb (hvx 12) ?_
 simp only [go_sem]
 refine zzb (hvx 13) ?_
 simp only [go_sem]
 refine zzb (hxv 13) ?_
 simp only [go_sem]
 refine zzb (hxv 12) ?_
 simp only [go_sem, hc4]
 have hadd := fun p s more out ho => yzj Z hI p s more out ho
 have hfl : ∀ (s : Str) (more : Bool) (l : List Pred) (o : List SQual), (l.foldl (fun o p => addB o p s more) o).length = o.length + l.length := by
  intro s more l
  induction l with
  | nil => intro o; rfl
  | cons p l ih => intro o; rw [List.foldl_cons, ih]; simp [addB]; omega
 refine zzn fun K hK => ?_
 refine zzf oneB (fun _ => True) (fun done _ => ⟨[(61, .d (.int .i64 done.length)), (60, .d (.int .i64 5)), (59, .d (.lst (oneB.map Pred.cells))), (8, .clo zzS [.ptr 7 0]), (7, .ptr 7 0), (6, .d (.lst (twoB.map Pred.cells))), (4, .d (.clo zzR [])), (1, .ptr 1 0), (2, .ptr 2 0)],
  [(7, [.own 7 6 ((done.foldl (fun o p => addB o p sInt false) []).map SQual.cells)]), (1, [.d (.int .i64 3), .d (.str [118]), .d (.int .i64 0), .full []]), (2, [.d (.int .i64 3), .d (.str [120]), .d (.int .i64 0), .full []])], [(7, true)]⟩) ?_ trivial ?_ ?_
 ·exact zkx 7 0 7 6 _ [] [(7, 7)] rfl rfl (by simp) rfl (by simp only [Ent0, go_sem, cN, oS, List.foldl_nil, mN, mC, lN, nZ, oneB, twoB])
 ·intro done p r hl _
  have hx := zzA hl
  have hlt := zzi hl
  have hdl : done.length < oneB.length := by rw [hl]; simp
  have h5 : oneB.length = 5 := rfl
  have hlt5 : decide ((done.length : Int) < 5) = true := by simp; omega
  have hlt5' : ((done.length : Int) < 5) = True := eq_true (by omega)
  have hw : IntKind.i64.wrap ((done.length : Int) + 1) = ((done.length + 1 : Nat) : Int) := zze (by omega)
  have hb := hadd p sInt false (done.foldl (fun o p => addB o p sInt false) []) (by rw [hfl]; simp; omega)
  rw [List.foldl_append]
  simp only [List.foldl_cons, List.foldl_nil]
  generalize done.foldl (fun o p => addB o p sInt false) [] = out at *
  generalize hos : oneB.map Pred.cells = ol at *
  have hol : ((ol.length : Nat) : Int) = 5 := by rw [← hos]; rfl
  have hole : (∀ e ∈ ol, e.length = 4) = True := by rw [← hos]; exact Pred.zzB _
  rw [Pred.zzd p] at hx hb
  simp only [zxa, go_sem, hlt5, hlt5', hx, hol, hole]
  refine zZD ⟨[(1000, 7)], [(2000, 7)], [(2000, 3000)], [.agg ([.int .i64 p.op, .str p.name, .int .i64 p.n, .lst (p.kids.map Pred.cells)].map .d), .d (.str sInt), .d (.bool false), .ptr 1000 0], [(1000, [.own 2000 6 (out.map SQual.cells)])], [(1000, [.own 2000 6 ((addB out p sInt false).map SQual.cells)])], .tup []⟩ hb rfl rfl ?_ ?_
  ·exact okAdd rfl rfl rfl ⟨⟨rfl, rfl, rfl, rfl, trivial⟩, rfl, rfl, rfl, trivial⟩
  ·simp only [afterB, renMem, getTM, if_true, Option.getD_some, newAll, killAll, List.nil_append, List.singleton_append, CV.toAV0, AV.ren0, AV.ren1, go_sem, mC, mN, List.cons_append, hw]
   refine zzo [(7, 3000)] ?_
   simp only [go_sem, cN, oS, lA, lC, lN, zA]
 ·intro _
  have h5 : decide (((oneB.length : Nat) : Int) < 5) = false := rfl
  simp only [zxa, go_sem, hK, h5]
  intro _
  generalize hO1 : oneB.foldl (fun o p => addB o p sInt false) [] = O1
  have hO1l : O1.length = 5 := by rw [← hO1]; rfl
  have hbs : basicS = addB (addB (addB (twoB.foldl (fun o p => addB o p sInt true) O1) qv sBool false) (.mk 14 [] 0 [qv]) sBool false) (q2 18 qv qx) sBool true := by rw [← hO1]; rfl
  clear hK K
  refine zzn fun K hK => ?_
  refine zzf twoB (fun _ => True) (fun done _ => ⟨[(71, .d (.int .i64 done.length)), (70, .d (.int .i64 5)), (69, .d (.lst (twoB.map Pred.cells))), (8, .clo zzS [.ptr 7 0]), (7, .ptr 7 0), (4, .d (.clo zzR [])), (1, .ptr 1 0), (2, .ptr 2 0)],
   [(7, [.own 7 6 ((done.foldl (fun o p => addB o p sInt true) O1).map SQual.cells)]), (1, [.d (.int .i64 3), .d (.str [118]), .d (.int .i64 0), .full []]), (2, [.d (.int .i64 3), .d (.str [120]), .d (.int .i64 0), .full []])], [(7, true)]⟩) ?_ trivial ?_ ?_
  ·exact zzo [(7, 7)] (by simp only [go_sem, cN, oS, List.foldl_nil, lN, nZ]; rfl)
  ·intro done p r hl _
   have hx := zzA hl
   have hlt := zzi hl
   have hdl : done.length < twoB.length := by rw [hl]; simp
   have h5 : twoB.length = 5 := rfl
   have hlt5 : decide ((done.length : Int) < 5) = true := by simp; omega
   have hlt5' : ((done.length : Int) < 5) = True := eq_true (by omega)
   have hw : IntKind.i64.wrap ((done.length : Int) + 1) = ((done.length + 1 : Nat) : Int) := zze (by omega)
   have hb := hadd p sInt true (done.foldl (fun o p => addB o p sInt true) O1) (by rw [hfl]; omega)
   rw [List.foldl_append]
   simp only [List.foldl_cons, List.foldl_nil]
   generalize done.foldl (fun o p => addB o p sInt true) O1 = out at *
   generalize hos : twoB.map Pred.cells = ol at *
   have hol : ((ol.length : Nat) : Int) = 5 := by rw [← hos]; rfl
   have hole : (∀ e ∈ ol, e.length = 4) = True := by rw [← hos]; exact Pred.zzB _
   rw [Pred.zzd p] at hx hb
   simp only [zy9, go_sem, hlt5, hlt5', hx, hol, hole]
   refine zZD ⟨[(1000, 7)], [(2000, 7)], [(2000, 3000)], [.agg ([.int .i64 p.op, .str p.name, .int .i64 p.n, .lst (p.kids.map Pred.cells)].map .d), .d (.str sInt), .d (.bool true), .ptr 1000 0], [(1000, [.own 2000 6 (out.map SQual.cells)])], [(1000, [.own 2000 6 ((addB out p sInt true).map SQual.cells)])], .tup []⟩ hb rfl rfl ?_ ?_
   ·exact okAdd rfl rfl rfl ⟨⟨rfl, rfl, rfl, rfl, trivial⟩, rfl, rfl, rfl, trivial⟩
   ·simp only [afterB, renMem, getTM, if_true, Option.getD_some, newAll, killAll, List.nil_append, List.singleton_append, CV.toAV0, AV.ren0, AV.ren1, go_sem, mC, mN, List.cons_append, hw]
    refine zzo [(7, 3000)] ?_
    simp only [go_sem, cN, oS, lA, lC, lN, zA]
  ·intro _
   have h5 : decide (((twoB.length : Nat) : Int) < 5) = false := rfl
   have hn : (q2 14 qv qv).n = 0 := rfl
   have hpn : (Pred.mk 14 [] 0 [qv]).cells = [.int .i64 14, .str [], .int .i64 0, .lst [[.int .i64 3, .str [118], .int .i64 0, .lst []]]] := by rw [Pred.zzd]; rfl
   have hpi : (q2 18 qv qx).cells = [.int .i64 18, .str [], .int .i64 0, .lst [[.int .i64 3, .str [118], .int .i64 0, .lst []], [.int .i64 3, .str [120], .int .i64 0, .lst []]]] := by rw [q2, Pred.zzd]; rfl
   generalize hO2 : twoB.foldl (fun o p => addB o p sInt true) O1 = O2 at *
   have hO2l : O2.length = 10 := by rw [← hO2, hfl, hO1l]; rfl
   generalize hO3 : addB O2 qv sBool false = O3 at *
   have hO3l : O3.length = 11 := by rw [← hO3, addB]; simp [hO2l]
   generalize hO4 : addB O3 (.mk 14 [] 0 [qv]) sBool false = O4 at *
   have hO4l : O4.length = 12 := by rw [← hO4, addB]; simp [hO3l]
   generalize hO5 : addB O4 (q2 18 qv qx) sBool true = O5 at *
   have b3 := hadd qv sBool false O2 (by omega)
   have b4 := hadd (.mk 14 [] 0 [qv]) sBool false O3 (by omega)
   have b5 := hadd (q2 18 qv qx) sBool true O4 (by omega)
   have hi18 := hvx 18
   rw [hv, hO3] at b3
   rw [hpn, hO4] at b4
   rw [hpi, hO5] at b5
   rw [hpi] at hi18
   rw [hbs] at hK
   simp only [zy9, go_sem, hK, h5]
   refine zZD ⟨[(1000, 7)], [(2000, 7)], [(2000, 3000)], _, _, _, .tup []⟩ b3 rfl rfl (okAdd rfl rfl rfl ⟨⟨rfl, rfl, rfl, rfl, trivial⟩, rfl, rfl, rfl, trivial⟩) ?_
   simp only [afterB, renMem, getTM, if_true, Option.getD_some, newAll, killAll, List.nil_append, List.singleton_append, CV.toAV0, AV.ren0, AV.ren1, go_sem, mC, mN, List.cons_append]
   refine zZD ⟨[(1000, 7)], [(2000, 3000)], [(2000, 3001)], _, _, _, .tup []⟩ b4 rfl rfl (okAdd rfl rfl rfl ⟨⟨rfl, rfl, rfl, rfl, trivial⟩, rfl, rfl, rfl, trivial⟩) ?_
   simp only [afterB, renMem, getTM, if_true, Option.getD_some, newAll, killAll, List.nil_append, List.singleton_append, CV.toAV0, AV.ren0, AV.ren1, go_sem, mC, mN, List.cons_append]
   refine zzb hi18 ?_
   simp only [afterB, renMem, getTM, if_true, Option.getD_some, newAll, killAll, List.nil_append, List.singleton_append, CV.toAV0, AV.ren0, AV.ren1, go_sem, mC, mN, List.cons_append]
   refine zZD ⟨[(1000, 7)], [(2000, 3001)], [(2000, 3002)], _, _, _, .tup []⟩ b5 rfl rfl (okAdd rfl rfl rfl ⟨⟨rfl, rfl, rfl, rfl, trivial⟩, rfl, rfl, rfl, trivial⟩) ?_
   simp only [afterB, renMem, getTM, if_true, Option.getD_some, newAll, killAll, List.nil_append, List.singleton_append, CV.toAV0, AV.ren0, AV.ren1, go_sem, mC, mN, List.cons_append]
theorem zqp (s : Str) : E.C zxp [.one (.str s)] (.agg (pv_q s).cells) := by
 refine Z.zxp _ _ ⟨bl rfl, ?_⟩
 rw [zyj]
 simp only [zqb, go_sem]
theorem yz1 (o : Int) (a b : Pred) : E.C zxI [.one (.int .i64 o), .agg a.cells, .agg b.cells] (.agg (q2 o a b).cells) := by
 refine Z.zxI _ _ ⟨bl rfl, ?_⟩
 rw [q2, Pred.zzd (.mk _ _ _ _), Pred.zzd a, Pred.zzd b]
 simp only [zKe, go_sem, Pred.op, Pred.name, Pred.n, Pred.kids, mC, mN, Pred.zzd a, Pred.zzd b]
theorem zJc : E.C zk1 [] (.one (.lst (basicS.map SQual.cells))) := by
 have h1 := fun o a b => yz1 Z o a b
 have hva := zqp Z [118]
 have hxa := zqp Z [120]
 refine Z.zk1 _ _ ⟨bl rfl, ?_⟩
 have hv : qv.cells = [.int .i64 3, .str [118], .int .i64 0, .lst []] := zyj _
 have hx : qx.cells = [.int .i64 3, .str [120], .int .i64 0, .lst []] := zyj _
 have hz : qz.cells = [.int .i64 1, .str [], .int .i64 0, .lst []] := by rw [qz, Pred.zzd]; rfl
 have hq2 : ∀ o a b, (q2 o a b).cells = [.int .i64 o, .str [], .int .i64 0, .lst [a.cells, b.cells]] := fun o a b => by rw [q2, Pred.zzd]; rfl
 have hvz := fun o => h1 o qv qz
 have hzv := fun o => h1 o qz qv
 have hvx := fun o => h1 o qv qx
 have hxv := fun o => h1 o qx qv
 simp only [hq2, hv, hz, hx] at hvz hzv hvx hxv
 rw [zyj] at hva hxa
 simp only [zY1, go_sem]
 refine zzb hva ?_
 simp only [go_sem]
 refine zzb hxa ?_
 simp only [go_sem]
 refine ⟨⟨by simp, by simp, by decide⟩, ⟨by simp, by decide⟩, ⟨by simp, by simp, by decide⟩, ⟨by simp, by decide⟩, ?_⟩
 refine zzb (hvz 12) ?_
 simp only [go_sem]
 refine zzb (hvz 13) ?_
 simp only [go_sem]
 refine zzb (hvz 10) ?_
 simp only [go_sem]
 refine zzb (hzv 13) ?_
 simp only [go_sem]
 refine zzb (hzv 12) ?_
 simp only [go_sem]
 refine zzb (hvx 10) ?_
 simp only [go_sem]
 refine zzb (hvx 12) ?_
 simp only [go_sem]
 refine zzb (hvx 13) ?_
 simp only [go_sem]
 refine zzb (hxv 13) ?_
 simp only [go_sem]
 refine zzb (hxv 12) ?_
 simp only [go_sem]
 refine zzb (hvx 18) ?_
 simp only [go_sem]
 have hent : ∀ m mp d, EntCs m mp (cellsB d) (cellsB d) = True := fun m mp d => eq_true (zZo m mp _)
 obtain ⟨rg, hrg⟩ : ∃ rg : List Nat, rg.length = 13 := ⟨List.range 13, by simp⟩
 refine zzn fun K hK => ?_
 refine zzf rg (fun _ => True) (fun done _ => ⟨[(9, .d (.int .i64 done.length)), (8, .vec 92 6 0 13 13)], [(92, cellsB done.length)], []⟩) ?_ trivial ?_ ?_
 ·refine zzc ⟨rfl, ?_, ?_⟩
  ·simp only [go_sem, lN, nZ, oS]
  ·simp only [go_sem, lN, oS]
   exact of_eq_true (hent _ _ 0)
 ·intro done x r hl _
  have hdl : done.length < 13 := by have := congrArg List.length hl; simp [hrg] at this; omega
  have hdg := zYa Z done.length (by omega)
  have hln := itoa_len' done.length (by omega)
  have hlt : decide ((done.length : Int) < 13) = true := by simp; omega
  have hlt' : ((done.length : Int) < 13) = True := eq_true (by omega)
  have hw : IntKind.i64.wrap ((done.length : Int) + 1) = ((done.length + 1 : Nat) : Int) := zze (by omega)
  have hst := zJL hdl
  have hle := zYj (Nat.le_of_lt hdl)
  have hsn : (done ++ [x]).length = done.length + 1 := by simp
  rw [hsn]
  generalize hd : done.length = d at *
  have hfit : (d * 6 + 1 ≤ (cellsB d).length) = True := eq_true (by omega)
  have h0 : 0 + d * 6 = d * 6 := by omega
  simp only [zkL, go_sem, hlt, hlt', h0]
  refine zzb hdg ?_
  simp only [go_sem, hlt, hlt', h0, hfit]
  refine ⟨by omega, zzc ?_⟩
  simp only [go_sem, Nat.add_zero, hst, hw, hent, oS]
 ·intro _
  have hl78 : (78 ≤ (cellsB 13).length) = True := eq_true (by rw [zYj (Nat.le_refl _)]; decide)
  have htk : (cellsB 13).take 78 = cellsB 13 := List.take_of_length_le (by rw [zYj (Nat.le_refl _)]; decide)
  have hmp : (cellsB 13).mapM (AV.toD [(92, cellsB 13)] 3) = some (basicS.zipIdx.map (rowB 13)).flatten := yvT _ 2 _
  have hch : chunk 6 13 (basicS.zipIdx.map (rowB 13)).flatten = basicS.map SQual.cells := rfl
  simp only [zkL, go_sem, hK, hrg, hl78, htk, hmp, hch]
end Go.Abs
end
section
namespace Go.Abs
def lightQ (q : SQual) (h : SHole) : Bool := decide ((q.vars.length : Int) ≤ 5) && decide (q.body.nodes ≤ 40) && decide ((h.params.length : Int) ≤ 8)
def intV (s : Str) : SVar := ⟨s, sInt⟩
theorem SQual.zy7 {l a r : List SQual} {q : SQual} (hl : l = a ++ q :: r) : (l.map SQual.cells).getD a.length [] = q.cells := getD_at hl
theorem zw2 : ∀ l : List Pred, Pred.same.sames l l = true
 | [] => rfl
 | x :: l => by rw [Pred.same.sames, Pred.zqr, zw2 l]; rfl
variable {E : AEnv} (Z : Sys E)
include Z
theorem zXh (l : List SVar) : E.C zx5 [.one (.lst (l.map SVar.cells)), .one (.lst (l.map SVar.cells))] (.one (.bool true)) := by
 refine Z.zx5 _ _ ⟨bl rfl, ?_⟩
 simp only [zj4, go_sem, lM]
 intro _
 have hne : (((l.length : Nat) : Int) != ((l.length : Nat) : Int)) = false := by simp
 simp only [go_sem, hne]
 intro _
 refine zzf l (fun _ => True) (fun done _ => ⟨[(5, .d (.int .i64 done.length)), (0, .d (.lst (l.map SVar.cells))), (1, .d (.lst (l.map SVar.cells)))], [], []⟩) ?_ trivial ?_ ?_
 ·exact zzc (by simp only [go_sem, lN, nZ])
 ·intro done x r hl _
  have hx := getD_at (f := SVar.cells) (d := []) hl
  have hlt := zzi hl
  rw [SVar.cells] at hx
  simp only [zwd, go_sem, hlt, hx, lM, SVar.lens]
  intro hlen
  have hw : IntKind.i64.wrap ((done.length : Int) + 1) = ((done.length + 1 : Nat) : Int) := zze (by have := zzi hl; omega)
  have e1 : (x.name == x.name) = true := by simp
  have e2 : (x.sort == x.sort) = true := by simp
  simp only [e1, e2, go_sem, hw]
  exact zzc (by simp only [go_sem, lA, lC, lN, zA])
 ·intro _
  simp only [zwd, go_sem, lM]
theorem zWC (l : List SQual) : E.C zjC [.one (.lst (l.map SQual.cells)), .one (.lst (l.map SQual.cells))] (.one (.bool true)) := by
 have hv := fun x => zXh Z x
 have hs := fun p => zxm Z p p
 refine Z.zjC _ _ ⟨bl rfl, ?_⟩
 simp only [zWa, go_sem, lM]
 intro _
 have hne : (((l.length : Nat) : Int) != ((l.length : Nat) : Int)) = false := by simp
 simp only [go_sem, hne]
 intro _
 refine zzf l (fun _ => True) (fun done _ => ⟨[(5, .d (.int .i64 done.length)), (0, .d (.lst (l.map SQual.cells))), (1, .d (.lst (l.map SQual.cells)))], [], []⟩) ?_ trivial ?_ ?_
 ·exact zzc (by simp only [go_sem, lN, nZ])
 ·intro done q r hl _
  have hx := SQual.zy7 hl
  have hlt := zzi hl
  have hdl : done.length < l.length := by rw [hl]; simp
  have hv := hv q.vars
  have hs := hs q.body
  have hrf := Pred.zqr q.body
  rw [SQual.cells, Pred.zzd] at hx
  rw [Pred.zzd, hrf] at hs
  simp only [zvC, go_sem, hlt, hx, lM, SQual.lens]
  intro hlen
  have hw : IntKind.i64.wrap ((done.length : Int) + 1) = ((done.length + 1 : Nat) : Int) := zze (by omega)
  have e1 : (q.name == q.name) = true := by simp
  refine zy8 (fun _ => hv) ?_
  simp only [go_sem, hlt, hx, lM, SQual.lens, e1]
  refine zzb hs ?_
  simp only [go_sem, hw]
  exact zzc (by simp only [go_sem, lA, lC, lN, zA])
 ·intro _
  simp only [zvC, go_sem, lM]
theorem zwV (q : SQual) (h : SHole) : E.C zxf [.agg q.cells, .agg h.cells] (.one (.bool (lightQ q h))) := by
 have hn := zqn Z q.body
 refine Z.zxf _ _ ⟨bl rfl, ?_⟩
 rw [SQual.cells, SHole.cells]
 rw [Pred.zzd] at *
 unfold lightQ
 simp only [zYH, go_sem, lM]
 intro _
 refine zy8 (fun _ => hn) ?_
 simp only [go_sem, lM]
theorem zZt (l : List Str) (hl : l.length ≤ 1000) : E.C zvk [.one (.lst (l.map fun k => [.str k]))] (.one (.lst ((l.map intV).map SVar.cells))) := by
 refine Z.zvk _ _ ⟨bl rfl, ?_⟩
 simp only [zXP, go_sem, lM]
 refine zzf l (fun _ => True) (fun done _ => ⟨[(4, .d (.int .i64 done.length)), (0, .d (.lst (l.map fun k => [.str k]))), (3, .own 3 2 ((done.map intV).map SVar.cells))], [], [(3, true)]⟩) ?_ trivial ?_ ?_
 ·exact zwJ 3 3 2 [] [(3, 3)] rfl (by simp) rfl (by simp only [Ent0, go_sem, cN, mN, lN, nZ])
 ·intro done x r hl' _
  have hx := getD_at (f := fun k : Str => [D.str k]) (d := []) hl'
  have hlt := zzi hl'
  have hdl : done.length < l.length := by rw [hl']; simp
  have hw : IntKind.i64.wrap ((done.length : Int) + 1) = ((done.length + 1 : Nat) : Int) := zze (by omega)
  simp only [zvq, go_sem, hlt, hx, lM, zqY, hw]
  intro _
  refine ⟨⟨by simp, by omega, by omega⟩, zzo [(3, 18)] ?_⟩
  simp only [go_sem, cN, lA, lC, lN, zA, mA, mC, mN, SVar.len2]
  rfl
 ·intro _
  simp only [zvq, go_sem, lM]
theorem yw3 (s : Str) : E.C l45_v [.one (.str s)] (.agg (pv_q s).cells) := by
 refine Z.l45_v _ _ ⟨bl rfl, ?_⟩
 rw [zyj]
 simp only [zQX, go_sem]
theorem yzO (o : Int) (a b : Pred) : E.C zxW [.one (.int .i64 o), .agg a.cells, .agg b.cells] (.agg (q2 o a b).cells) := by
 refine Z.zxW _ _ ⟨bl rfl, ?_⟩
 rw [q2, Pred.zzd (.mk _ _ _ _), Pred.zzd a, Pred.zzd b]
 simp only [zW7, go_sem, Pred.op, Pred.name, Pred.n, Pred.kids, mC, mN, Pred.zzd a, Pred.zzd b]
theorem zqg (l : List Pred) (p : Pred) : E.C zwU [.one (.lst (l.map Pred.cells)), .agg p.cells] (.one (.bool (hasP l p))) := by
 have hs := fun x => zxm Z x p
 refine Z.zwU _ _ ⟨bl rfl, ?_⟩
 generalize hR : hasP l p = R
 rw [Pred.zzd p] at *
 simp only [zYF, go_sem]
 refine zzf l (fun done => ∀ y ∈ done, p.same y = false) (fun done rest => ⟨[(5, .d (.int .i64 done.length)), (0, .d (.lst (l.map Pred.cells))), (3, .ptr 3 0)], [(3, [.d (.int .i64 p.op), .d (.str p.name), .d (.int .i64 p.n), .d (.lst (p.kids.map Pred.cells))])], []⟩) ?_ (by simp) ?_ ?_
 ·exact zzc (by simp only [go_sem, oS])
 ·intro done x r hl hI
  rw [zKS hl hI] at hR
  have hlt := zzi hl
  have hsx := hs x
  simp only [zkB, go_sem, hlt, zzA hl, lM, zqC]
  intro hlen
  have hw : IntKind.i64.wrap ((done.length : Int) + 1) = ((done.length + 1 : Nat) : Int) := zze (by omega)
  refine zzb hsx ?_
  rw [zjd]
  cases c0 : p.same x with
  | true => simp only [c0, go_sem] at hR ⊢; exact hR
  | false =>
   simp only [c0, go_sem, hw, lA]
   exact ⟨zzc (by simp only [go_sem, oS, lA]), zyb hI c0⟩
 ·intro hI
  rw [zWh hI] at hR
  simp only [zkB, go_sem, ← hR]
end Go.Abs
end
section
namespace Go.Abs
structure Law45 (E : AEnv) : Prop where
 sys : Sys E
 hG : E.G 0 = some (kws.map .str)
 it : ∀ p, E.It zzY [.ref (Pred.cells p)] (yields p.pre)
 of : ∀ v p, v.Ok → E.C zxC [.agg v.cells, .agg p.cells] (two (OfS v p))
 it45 : It45 E
 bool : ∀ (name t : Str) (p : Pred), E.C zzD [.agg p.cells, .one (.str name), .one (.str t)] (.one (.bool (boolP name t p)))
 itoa : Itoa45 E
 clone : Clone45 E
def exH_q : SHole := ⟨[107], [⟨[118], sInt⟩, ⟨[97], sInt⟩, ⟨[98], sBool⟩, ⟨[99], sInt⟩]⟩
def exQ_q : SQual := ⟨[113], [intV [118], intV [120]], q2 13 qv qx⟩
def exR : SQual := ⟨[114], [intV [118], intV [120], intV [121]], q2 10 (q2 6 qx (pv_q [121])) qv⟩
def zJS : Pred := q2 15 (q2 13 qx qv) (q2 12 qv (pv_q [121]))
theorem ywZ : instS exQ_q exH_q = [q2 13 qv (pv_q [97]), q2 13 qv (pv_q [99])] := by rfl
theorem yw0 : instS exR exH_q = [q2 10 (q2 6 (pv_q [97]) (pv_q [99])) qv, q2 10 (q2 6 (pv_q [99]) (pv_q [97])) qv] := by rfl
theorem qn1 : qName 113 1 = [113, 49] := by unfold qName; rw [show ((1 : Nat) : Int) = ((1 : Nat) : Int) from rfl, zqH, Lib.decDigits]; rfl
theorem yw9 : ∃ n0, OfQ [zJS] sInt = [⟨n0, [⟨[118], sInt⟩, ⟨[120], sInt⟩], q2 13 qx qv⟩, ⟨qName 113 1, [⟨[118], sInt⟩, ⟨[121], sInt⟩], q2 12 qv (pv_q [121])⟩] := ⟨qName 113 0, by rfl⟩
theorem ywr : (basicS.all fun q => chkQ [] q == 0) = true := by decide +kernel
theorem ywx : (candsQ exH_q [exQ_q, exQ_q, exR]).length = 4 := by rfl
variable {E : AEnv} (L : Law45 E)
include L
theorem Law45.check (p : Pred) : E.C zxv [.agg (Pred.cells p)] (.one (.int .i64 p.checkE)) := zZ3 L.sys L.hG L.it p
theorem Law45.chk (syms : List SSym) (q : SQual) (hs : ∀ s ∈ syms, Small s.args.length) : E.C zzG [.one (.lst (syms.map SSym.cells)), .agg q.cells] (.one (.int .i64 (chkQ syms q))) :=
 zZ6 L.sys L.hG syms q fun hv => zqt L.sys ⟨q.vars, syms, []⟩ q.body (L.of _ _ ⟨hs, fun h hh => by cases hh⟩)
theorem Law45.inst (q : SQual) (h : SHole) (hv : q.vars.length ≤ 5) (hp : h.params.length ≤ 8) (ht : Tame q.body) : E.C zzC [.agg q.cells, .agg h.cells] (.one (.lst ((instS q h).map Pred.cells))) :=
 zv2 L.sys L.it45 q h (by omega) (by omega) ht (Nat.le_trans (Nat.pow_le_pow_left hp _) (Nat.le_trans (Nat.pow_le_pow_right (by decide) (show q.vars.length - 1 ≤ 4 by omega)) (by decide)))
theorem Law45.rinst (q : SQual) (h : SHole) (hv : q.vars.length ≤ 5) (hp : h.params.length ≤ 8) (ht : Tame q.body) : E.C zko [.agg q.cells, .agg h.cells] (.one (.lst ((instS q h).map Pred.cells))) :=
 zWB L.sys q h ht (by omega) (by omega) (Nat.le_trans (Nat.pow_le_pow_left hp _) (Nat.le_trans (Nat.pow_le_pow_right (by decide) (show q.vars.length - 1 ≤ 4 by omega)) (by decide)))
theorem zx0 : E.C zzN [] (.one (.bool true)) := by
 have hiq := L.inst exQ_q exH_q (by decide) (by decide) (zz6 _ (by decide +kernel))
 have hir := L.inst exR exH_q (by decide) (by decide) (zz6 _ (by decide +kernel))
 obtain ⟨n0, hofe⟩ := yw9
 have hof := zql L.sys L.check L.itoa L.clone L.bool [zJS] sInt (by decide +kernel)
 rw [hofe, qn1] at hof
 have hba := zvn L.sys L.itoa
 have hi2 := zZt L.sys [[118], [120]] (by decide)
 have hi3 := zZt L.sys [[118], [120], [121]] (by decide)
 have hi1 := zZt L.sys [[120]] (by decide)
 have hv := fun s => yw3 L.sys s
 have htw := fun o a b => yzO L.sys o a b
 have hsame := fun p => zxm L.sys p p
 have hsr : ∀ p : Pred, p.same p = true := Pred.zqr
 simp only [hsr] at hsame
 refine L.sys.zzN _ _ ⟨bl rfl, ?_⟩
 have hq2 : ∀ o a b, (q2 o a b).cells = [.int .i64 o, .str [], .int .i64 0, .lst [a.cells, b.cells]] := fun o a b => by rw [q2, Pred.zzd]; rfl
 have cx := fun o (a b : List UInt8) => htw o (pv_q a) (pv_q b)
 have c2 := fun o o2 (a b d : List UInt8) => htw o (q2 o2 (pv_q a) (pv_q b)) (pv_q d)
 have c3 := htw 15 (q2 13 qx qv) (q2 12 qv (pv_q [121]))
 have s1 := fun o (a b : List UInt8) => hsame (q2 o (pv_q a) (pv_q b))
 have s2 := fun o o2 (a b d : List UInt8) => hsame (q2 o (q2 o2 (pv_q a) (pv_q b)) (pv_q d))
 rw [ywZ] at hiq
 rw [yw0] at hir
 simp only [SQual.cells, SHole.cells, exQ_q, exR, exH_q, zJS, qv, qx, intV, mC, mN, SVar.len2, hq2, zyj, sInt, sBool] at hiq hir hof hi1 hi2 hi3 hv cx c2 c3 s1 s2
 simp only [zYG, go_sem]
 refine zzb (hi2) ?_
 simp only [go_sem]
 refine zzb (hv [118]) ?_
 simp only [go_sem]
 refine zzb (hv [120]) ?_
 simp only [go_sem]
 refine zzb (cx 13 [118] [120]) ?_
 simp only [go_sem]
 refine zzb (hi3) ?_
 simp only [go_sem]
 refine zzb (hv [120]) ?_
 simp only [go_sem]
 refine zzb (hv [121]) ?_
 simp only [go_sem]
 refine zzb (cx 6 [120] [121]) ?_
 simp only [go_sem]
 refine zzb (hv [118]) ?_
 simp only [go_sem]
 refine zzb (c2 10 6 [120] [121] [118]) ?_
 simp only [go_sem]
 refine zzb (hiq) ?_
 simp only [go_sem]
 refine zzb (hir) ?_
 simp only [go_sem]
 refine zzb (hv [120]) ?_
 simp only [go_sem]
 refine zzb (hv [118]) ?_
 simp only [go_sem]
 refine zzb (cx 13 [120] [118]) ?_
 simp only [go_sem]
 refine zzb (hv [118]) ?_
 simp only [go_sem]
 refine zzb (hv [121]) ?_
 simp only [go_sem]
 refine zzb (cx 12 [118] [121]) ?_
 simp only [go_sem]
 refine zzb (c3) ?_
 simp only [go_sem]
 refine zzb (hof) ?_
 simp only [go_sem]
 refine zzb (hba) ?_
 simp only [go_sem]
 simp only [go_sem, Int.reduceBNe, Int.reduceBEq, List.mem_cons, List.not_mem_nil, or_false, forall_eq_or_imp, forall_eq, lC, lN, Nat.reduceAdd]
 refine zzb (hv [118]) ?_
 simp only [go_sem, Int.reduceBNe, Int.reduceBEq, List.mem_cons, List.not_mem_nil, or_false, forall_eq_or_imp, forall_eq, lC, lN, Nat.reduceAdd]
 refine zzb (hv [97]) ?_
 simp only [go_sem, Int.reduceBNe, Int.reduceBEq, List.mem_cons, List.not_mem_nil, or_false, forall_eq_or_imp, forall_eq, lC, lN, Nat.reduceAdd]
 refine zzb (cx 13 [118] [97]) ?_
 simp only [go_sem, Int.reduceBNe, Int.reduceBEq, List.mem_cons, List.not_mem_nil, or_false, forall_eq_or_imp, forall_eq, lC, lN, Nat.reduceAdd]
 refine zzb (s1 13 [118] [97]) ?_
 simp only [go_sem, Int.reduceBNe, Int.reduceBEq, List.mem_cons, List.not_mem_nil, or_false, forall_eq_or_imp, forall_eq, lC, lN, Nat.reduceAdd]
 refine zzb (hv [118]) ?_
 simp only [go_sem, Int.reduceBNe, Int.reduceBEq, List.mem_cons, List.not_mem_nil, or_false, forall_eq_or_imp, forall_eq, lC, lN, Nat.reduceAdd]
 refine zzb (hv [99]) ?_
 simp only [go_sem, Int.reduceBNe, Int.reduceBEq, List.mem_cons, List.not_mem_nil, or_false, forall_eq_or_imp, forall_eq, lC, lN, Nat.reduceAdd]
 refine zzb (cx 13 [118] [99]) ?_
 simp only [go_sem, Int.reduceBNe, Int.reduceBEq, List.mem_cons, List.not_mem_nil, or_false, forall_eq_or_imp, forall_eq, lC, lN, Nat.reduceAdd]
 refine zzb (s1 13 [118] [99]) ?_
 simp only [go_sem, Int.reduceBNe, Int.reduceBEq, List.mem_cons, List.not_mem_nil, or_false, forall_eq_or_imp, forall_eq, lC, lN, Nat.reduceAdd]
 refine zzb (hv [99]) ?_
 simp only [go_sem, Int.reduceBNe, Int.reduceBEq, List.mem_cons, List.not_mem_nil, or_false, forall_eq_or_imp, forall_eq, lC, lN, Nat.reduceAdd]
 refine zzb (hv [97]) ?_
 simp only [go_sem, Int.reduceBNe, Int.reduceBEq, List.mem_cons, List.not_mem_nil, or_false, forall_eq_or_imp, forall_eq, lC, lN, Nat.reduceAdd]
 refine zzb (cx 6 [99] [97]) ?_
 simp only [go_sem, Int.reduceBNe, Int.reduceBEq, List.mem_cons, List.not_mem_nil, or_false, forall_eq_or_imp, forall_eq, lC, lN, Nat.reduceAdd]
 refine zzb (hv [118]) ?_
 simp only [go_sem, Int.reduceBNe, Int.reduceBEq, List.mem_cons, List.not_mem_nil, or_false, forall_eq_or_imp, forall_eq, lC, lN, Nat.reduceAdd]
 refine zzb (c2 10 6 [99] [97] [118]) ?_
 simp only [go_sem, Int.reduceBNe, Int.reduceBEq, List.mem_cons, List.not_mem_nil, or_false, forall_eq_or_imp, forall_eq, lC, lN, Nat.reduceAdd]
 refine zzb (s2 10 6 [99] [97] [118]) ?_
 simp only [go_sem, Int.reduceBNe, Int.reduceBEq, List.mem_cons, List.not_mem_nil, or_false, forall_eq_or_imp, forall_eq, lC, lN, Nat.reduceAdd]
 have e1 : (([113, 49] : List UInt8) == [113, 49]) = true := rfl
 have e2 : (([121] : List UInt8) == [121]) = true := rfl
 have e3 : (((basicS.length : Nat) : Int) != 13) = false := rfl
 simp only [go_sem, e1, e2, e3]
 have hbok : ∀ q ∈ basicS, chkQ [] q = 0 := fun q hq => by simpa using List.all_eq_true.1 ywr q hq
 have hch := fun q => L.chk [] q (fun s hs => by cases hs)
 have hcz := hch zeroQ
 have hc6 := hch ⟨[], [intV [120]], zeroP⟩
 have hz13 : chkQ [] zeroQ = 13 := rfl
 have hz6 : chkQ [] ⟨[], [intV [120]], zeroP⟩ = 6 := rfl
 rw [hz13, zWR] at hcz
 rw [hz6] at hc6
 have hall := zxP L.sys exH_q [exQ_q, exQ_q, exR] (fun q hq => by
  have : q = exQ_q ∨ q = exR := by simpa using hq
  rcases this with rfl | rfl
  ·exact L.inst exQ_q exH_q (by decide) (by decide) (zz6 _ (by decide +kernel))
  ·exact L.inst exR exH_q (by decide) (by decide) (zz6 _ (by decide +kernel)))
 have h4 := ywx
 generalize candsQ exH_q [exQ_q, exQ_q, exR] = cd at *
 simp only [SQual.cells, SHole.cells, exQ_q, exR, exH_q, qv, qx, intV, mC, mN, SVar.len2, hq2, zyj, zZB, sInt, sBool] at hc6 hcz hall
 refine zzn fun K hK => ?_
 refine zzf basicS (fun _ => True) (fun done _ => ⟨[(8, .d (.int .i64 done.length)), (7, .d (.lst (basicS.map SQual.cells))), (1, .ptr 1 0), (2, .ptr 2 0), (3, .ptr 3 0)],
  [(3, exR.cells.map .d), (2, exQ_q.cells.map .d), (1, exH_q.cells.map .d)], []⟩) ?_ trivial ?_ ?_
 ·exact zzc (by simp only [go_sem, oS, lN, nZ, SQual.cells, SHole.cells, exQ_q, exR, exH_q, qv, qx, intV, mC, mN, SVar.len2, hq2, zyj, sInt, sBool, List.cons_append, List.nil_append])
 ·intro done q r hl _
  have hx := SQual.zy7 hl
  have hlt := zzi hl
  have h13 : ((basicS.length : Nat) : Int) = 13 := rfl
  have hw : IntKind.i64.wrap ((done.length : Int) + 1) = ((done.length + 1 : Nat) : Int) := zze (by have := zzi hl; omega)
  have hq := hch q
  rw [hbok q (by rw [hl]; simp), SQual.cellsE] at hq
  rw [SQual.cellsE] at hx
  have hql := SQual.lens basicS
  simp only [zkC, go_sem, hlt, hx, lM, hql]
  intro _
  refine zzb hq ?_
  simp only [go_sem, Int.reduceBNe, hw]
  exact zzc (by simp only [go_sem, oS, lA, lC, lN, zA])
 ·intro _
  simp only [SQual.cells, SHole.cells, exQ_q, exR, exH_q, qv, qx, intV, mC, mN, SVar.len2, hq2, zyj, sInt, sBool, List.cons_append, List.nil_append, zkC, go_sem, hK, lM]
  intro _
  refine zzb hcz ?_
  simp only [go_sem, Int.reduceBNe, Int.reduceBEq, lC, lN, Nat.reduceAdd]
  refine zzb hi1 ?_
  simp only [go_sem, Int.reduceBNe, Int.reduceBEq, lC, lN, Nat.reduceAdd]
  refine zzb hc6 ?_
  simp only [go_sem, Int.reduceBNe, Int.reduceBEq, lC, lN, Nat.reduceAdd]
  refine zzb hall ?_
  simp only [go_sem, h4, Int.reduceBNe, Int.reduceBEq, lC, lN, Nat.reduceAdd]
end Go.Abs
end
section
namespace Go.Abs
theorem zz3 {q : SQual} {h : SHole} (hl : lightQ q h = true) : q.vars.length ≤ 5 ∧ h.params.length ≤ 8 := by
 unfold lightQ at hl
 simp only [Bool.and_eq_true, decide_eq_true_eq] at hl
 omega
theorem SSym.lens3 (l : List SSym) : (∀ e ∈ l.map SSym.cells, e.length = 3) = True := zxO (f := SSym.cells) (fun _ => rfl) l
def noHole : SHole := ⟨[], []⟩
variable {E : AEnv} (L : Law45 E)
include L
theorem zQC (syms : List SSym) (q : SQual) : E.C zyp [.one (.lst (syms.map SSym.cells)), .agg q.cells] (.one (.bool true)) := by
 have haw := zx0 L
 have hl := zwV L.sys q noHole
 have h1 := fun hs => L.chk syms q hs
 have h2 := zJd L.sys syms q
 refine L.sys.zyp _ _ ⟨bl rfl, ?_⟩
 rw [show noHole.cells = [.str [], .lst []] from rfl] at hl
 rw [SQual.cellsE] at *
 simp only [zwl, go_sem, lM]
 refine zzb hl ?_
 cases c0 : lightQ q noHole with
 | false =>
  simp only [go_sem]
  refine zzb haw ?_
  simp only [go_sem]
 | true =>
  simp only [go_sem, lM]
  intro hlen
  cases c1 : decide ((syms.length : Int) > 20) with
  | true =>
   simp only [go_sem]
   refine zzb haw ?_
   simp only [go_sem]
  | false =>
   simp only [go_sem]
   refine zzf syms (fun done => ∀ s ∈ done, (s.args.length : Int) ≤ 8) (fun done _ => ⟨[(5, .d (.int .i64 done.length)), (0, .d (.lst (syms.map SSym.cells))), (3, .ptr 3 0)],
    [(3, q.cells.map .d)], []⟩) ?_ (by simp) ?_ ?_
   ·rw [SQual.cellsE]
    exact zzc (by simp only [go_sem, oS, lN, nZ, mC, mN])
   ·intro done x r hl hi
    have hx := getD_at (f := SSym.cells) (d := []) hl
    have hlt := zzi hl
    rw [SSym.cells] at hx
    simp only [zyA, go_sem, hlt, hx, lM, SSym.lens3]
    intro _ _
    have hw : IntKind.i64.wrap ((done.length : Int) + 1) = ((done.length + 1 : Nat) : Int) := zze (by have := zzi hl; omega)
    cases c2 : decide ((x.args.length : Int) > 8) with
    | true =>
     simp only [go_sem]
     refine zzb haw ?_
     simp only [go_sem]
    | false =>
     simp only [go_sem, hw]
     refine ⟨zzc (by simp only [go_sem, oS, lA, lC, lN, zA]), ?_⟩
     intro s hs
     rw [List.mem_append, List.mem_singleton] at hs
     rcases hs with hs | rfl
     ·exact hi s hs
     ·simpa using c2
   ·intro hi
    have hq := h1 (fun s hs => by have := hi s hs; unfold Small; omega)
    rw [SQual.cellsE]
    simp only [zyA, go_sem, lM, mC, mN]
    intro _
    refine zzb hq ?_
    simp only [go_sem]
    refine zzb h2 ?_
    simp only [go_sem, beq_self_eq_true]
    refine zzb haw ?_
    simp only [go_sem]
theorem yzk (q : SQual) (h : SHole) (hq : q.body.cnt ≤ 1048576) : E.C zyw [.agg q.cells, .agg h.cells] (.one (.bool true)) := by
 have haw := zx0 L
 have hl := zwV L.sys q h
 have h1 := fun hl : lightQ q h = true => L.inst q h (zz3 hl).1 (zz3 hl).2 (zz6 _ hq)
 have h2 := fun hl : lightQ q h = true => L.rinst q h (zz3 hl).1 (zz3 hl).2 (zz6 _ hq)
 have h3 := zjB L.sys (instS q h) (instS q h)
 rw [zw2] at h3
 refine L.sys.zyw _ _ ⟨bl rfl, ?_⟩
 generalize instS q h = is at *
 rw [SQual.cellsE, SHole.cells] at *
 simp only [zwP, go_sem, lM]
 refine zzb hl ?_
 cases c0 : lightQ q h with
 | false =>
  simp only [go_sem]
  refine zzb haw ?_
  simp only [go_sem]
 | true =>
  simp only [go_sem]
  refine zzb (h1 c0) ?_
  simp only [go_sem]
  refine zzb (h2 c0) ?_
  simp only [go_sem]
  refine zzb h3 ?_
  simp only [go_sem]
  refine zzb haw ?_
  simp only [go_sem]
end Go.Abs
end
section
namespace Go.Abs
theorem zJA : (basicS.all fun q => decide (q.vars.length ≤ 2) && decide (q.body.cnt ≤ 1000)) = true := by decide +kernel
theorem zW1 {q : SQual} (h : q ∈ basicS) : q.vars.length ≤ 2 ∧ q.body.cnt ≤ 1000 := by
 have := List.all_eq_true.1 zJA q h
 simp only [Bool.and_eq_true, decide_eq_true_eq] at this
 exact this
theorem zVZ {p v : Nat} (hp : p ≤ 1048576) (hv : v ≤ 2) : p ^ (v - 1) ≤ 1073741824 := by
 have h : v = 0 ∨ v = 1 ∨ v = 2 := by omega
 rcases h with rfl | rfl | rfl
 ·simp
 ·simp
 ·rw [show 2 - 1 = 1 from rfl, Nat.pow_one]; omega
theorem zwD (l : List Pred) : (∀ e ∈ l.map Pred.cells, e.length = 4) = True := zxO (f := Pred.cells) (fun q => Pred.zzu q) l
variable {E : AEnv} (L : Law45 E)
include L
theorem yyh (l : List SQual) (h : SHole) (hc : ∀ q ∈ l, q.body.cnt ≤ 1048576) (hh : h.params.length ≤ 1048576) : E.C zyK [.one (.lst (l.map SQual.cells)), .agg h.cells] (.one (.bool true)) := by
 have haw := zx0 L
 have hli := fun q => zwV L.sys q h
 have h1 := fun hi : (∀ q ∈ l, lightQ q h = true) => zxP L.sys h l (fun q hq => L.inst q h (zz3 (hi q hq)).1 (zz3 (hi q hq)).2 (zz6 _ (hc q hq)))
 have h2 := fun hi : (∀ q ∈ l, lightQ q h = true) => zKz L.sys h l (fun q hq => L.rinst q h (zz3 (hi q hq)).1 (zz3 (hi q hq)).2 (zz6 _ (hc q hq)))
 have h3 := zjB L.sys (candsQ h l) (candsQ h l)
 rw [zw2] at h3
 have b1 := zvn L.sys L.itoa
 have b2 := zJc L.sys
 have b3 := zWC L.sys basicS
 have b4 := zxP L.sys h basicS (fun q hq => by
  have := zW1 hq
  exact zv2 L.sys L.it45 q h (by omega) hh (zz6 _ (by omega)) (zVZ hh this.1))
 have b5 := zKz L.sys h basicS (fun q hq => by
  have := zW1 hq
  exact zWB L.sys q h (zz6 _ (by omega)) hh (by omega) (zVZ hh this.1))
 have b6 := zjB L.sys (candsQ h basicS) (candsQ h basicS)
 rw [zw2] at b6
 refine L.sys.zyK _ _ ⟨bl rfl, ?_⟩
 generalize candsQ h basicS = cb at *
 generalize candsQ h l = cl at *
 generalize basicS = bs at *
 have hhc : h.cells = [.str h.name, .lst (h.params.map SVar.cells)] := rfl
 rw [hhc] at *
 simp only [zkc, go_sem, lM]
 intro hlen
 cases c0 : decide ((l.length : Int) > 16) with
 | true =>
  simp only [go_sem]
  refine zzb haw ?_
  simp only [go_sem]
 | false =>
  simp only [go_sem]
  refine zzf l (fun done => ∀ q ∈ done, lightQ q h = true) (fun done _ => ⟨[(5, .d (.int .i64 done.length)), (0, .d (.lst (l.map SQual.cells))), (3, .ptr 3 0)],
   [(3, [.d (.str h.name), .d (.lst (h.params.map SVar.cells))])], []⟩) ?_ (by simp) ?_ ?_
  ·exact zzc (by simp only [go_sem, oS, lN, nZ])
  ·intro done x r hl hi
   have hx := SQual.zy7 hl
   have hlt := zzi hl
   have hlx := hli x
   rw [SQual.cellsE] at hx hlx
   simp only [zyP, go_sem, hlt, hx, lM, SQual.lens]
   intro _
   have hw : IntKind.i64.wrap ((done.length : Int) + 1) = ((done.length + 1 : Nat) : Int) := zze (by have := zzi hl; omega)
   refine zzb hlx ?_
   cases c2 : lightQ x h with
   | false =>
    simp only [go_sem]
    refine zzb haw ?_
    simp only [go_sem]
   | true =>
    simp only [go_sem, hw]
    refine ⟨zzc (by simp only [go_sem, oS, lA, lC, lN, zA]), ?_⟩
    intro s hs
    rw [List.mem_append, List.mem_singleton] at hs
    rcases hs with hs | rfl
    ·exact hi s hs
    ·exact c2
  ·intro hi
   simp only [zyP, go_sem, lM]
   intro _
   refine zzb (h1 hi) ?_
   simp only [go_sem]
   refine zzb (h2 hi) ?_
   simp only [go_sem]
   refine zzb h3 ?_
   simp only [go_sem]
   refine zzb b1 ?_
   simp only [go_sem]
   refine zzb b2 ?_
   simp only [go_sem]
   refine zzb b3 ?_
   simp only [go_sem]
   refine zzb b1 ?_
   simp only [go_sem]
   refine zzb b4 ?_
   simp only [go_sem]
   refine zzb b2 ?_
   simp only [go_sem]
   refine zzb b5 ?_
   simp only [go_sem]
   refine zzb b6 ?_
   simp only [go_sem]
   refine zzb haw ?_
   simp only [go_sem]
theorem yyn (l : List Pred) (s : Str) (hc : Pred.cnts l ≤ 1048576) : E.C zyZ [.one (.lst (l.map Pred.cells)), .one (.str s)] (.one (.bool true)) := by
 have haw := zx0 L
 have hn := fun p => zqn L.sys p
 have h1 := zql L.sys L.check L.itoa L.clone L.bool l s hc
 have h2 := yxO L.sys l s hc
 have h3 := zWC L.sys (OfQ l s)
 refine L.sys.zyZ _ _ ⟨bl rfl, ?_⟩
 generalize OfQ l s = o at *
 simp only [zkA, go_sem, lM]
 intro hlen
 cases c0 : decide ((l.length : Int) > 8) with
 | true =>
  simp only [go_sem]
  refine zzb haw ?_
  simp only [go_sem]
 | false =>
  simp only [go_sem]
  refine zzf l (fun _ => True) (fun done _ => ⟨[(5, .d (.int .i64 done.length)), (0, .d (.lst (l.map Pred.cells))), (1, .d (.str s))], [], []⟩) ?_ trivial ?_ ?_
  ·exact zzc (by simp only [go_sem, lN, nZ])
  ·intro done x r hl hi
   have hx := getD_at (f := Pred.cells) (d := []) hl
   have hlt := zzi hl
   have hlx := hn x
   rw [Pred.zzd] at hx hlx
   simp only [zy3, go_sem, hlt, hx, lM, zwD]
   intro _
   have hw : IntKind.i64.wrap ((done.length : Int) + 1) = ((done.length + 1 : Nat) : Int) := zze (by have := zzi hl; omega)
   refine zzb hlx ?_
   cases c2 : decide (x.nodes > 60) with
   | true =>
    simp only [go_sem, c2]
    refine zzb haw ?_
    simp only [go_sem]
   | false =>
    simp only [go_sem, hw, c2]
    exact zzc (by simp only [go_sem, oS, lA, lC, lN, zA])
  ·intro hi
   simp only [zy3, go_sem, lM]
   intro _
   refine zzb h1 ?_
   simp only [go_sem]
   refine zzb h2 ?_
   simp only [go_sem]
   refine zzb h3 ?_
   simp only [go_sem]
   refine zzb haw ?_
   simp only [go_sem]
end Go.Abs
end
section
namespace Go.Abs
variable {E : AEnv} (L : Law45 E)
include L
theorem yzl (syms : List SSym) (q : SQual) (h : SHole) (hs : ∀ s ∈ syms, Small s.args.length) (hq : q.body.cnt ≤ 1048576) :
  E.C zyx [.one (.lst (syms.map SSym.cells)), .agg q.cells, .agg h.cells] (.one (.bool true)) := by
 have haw := zx0 L
 have hli := zwV L.sys q h
 have h1 := fun hl : lightQ q h = true => L.inst q h (zz3 hl).1 (zz3 hl).2 (zz6 _ hq)
 have h2 := L.chk syms q hs
 have h3 := zVS L.sys h
 have hb := fun p => zqt L.sys ⟨h.params, syms, []⟩ p (L.of _ _ ⟨hs, fun h hh => by cases hh⟩)
 have hok : rightP h.params = 0 → chkQ syms q = 0 → ∀ p ∈ instS q h, BoolS ⟨h.params, syms, []⟩ p = 0 := fun hr hc => zJZ (yyS hc).1 (zJj hr).1 (zJj hr).2 (yyS hc).2
 refine L.sys.zyx _ _ ⟨bl rfl, ?_⟩
 generalize instS q h = is at *
 simp only [SEnv.cells] at hb
 have hhc : h.cells = [.str h.name, .lst (h.params.map SVar.cells)] := rfl
 rw [SQual.cellsE, hhc] at *
 simp only [zwQ, go_sem, lM]
 refine zzb hli ?_
 cases c0 : lightQ q h with
 | false =>
  simp only [go_sem]
  refine ⟨.one (.bool false), ?_⟩
  simp only [go_sem]
  refine ⟨.one (.bool false), ?_⟩
  simp only [go_sem]
  refine zzb haw ?_
  simp only [go_sem]
 | true =>
  simp only [go_sem, lM]
  intro hlen
  cases c1 : decide ((syms.length : Int) > 20) with
  | true =>
   simp only [go_sem]
   refine ⟨.one (.bool false), ?_⟩
   simp only [go_sem]
   refine ⟨.one (.bool false), ?_⟩
   simp only [go_sem]
   refine zzb haw ?_
   simp only [go_sem]
  | false =>
   simp only [go_sem]
   refine zzb h3 ?_
   cases c2 : (rightP h.params == 0) with
   | false =>
    simp only [go_sem]
    refine ⟨.one (.bool false), ?_⟩
    simp only [go_sem]
    refine zzb haw ?_
    simp only [go_sem]
   | true =>
    simp only [go_sem]
    refine zzb h2 ?_
    cases c3 : (chkQ syms q != 0) with
    | true =>
     simp only [go_sem, c3]
     refine zzb haw ?_
     simp only [go_sem]
    | false =>
     have hall := hok (by simpa using c2) (by simpa using c3)
     simp only [go_sem, c3]
     refine zzb (h1 c0) ?_
     simp only [go_sem, lM]
     refine zzf is (fun _ => True) (fun done _ => ⟨[(8, .d (.int .i64 done.length)), (7, .d (.lst (is.map Pred.cells))), (0, .d (.lst (syms.map SSym.cells))), (5, .ptr 5 0)],
      [(5, [.d (.str h.name), .d (.lst (h.params.map SVar.cells))])], []⟩) ?_ trivial ?_ ?_
     ·exact zzc (by simp only [go_sem, oS, lN, nZ])
     ·intro done x r hl _
      have hx := getD_at (f := Pred.cells) (d := []) hl
      have hlt := zzi hl
      have hbx := hb x
      rw [hall x (by rw [hl]; simp)] at hbx
      rw [Pred.zzd] at hx hbx
      simp only [zyH, go_sem, hlt, hx, lM, zwD]
      intro _
      have hw : IntKind.i64.wrap ((done.length : Int) + 1) = ((done.length + 1 : Nat) : Int) := zze (by have := zzi hl; omega)
      refine zzb hbx ?_
      simp only [go_sem, hw, Int.reduceBNe]
      exact zzc (by simp only [go_sem, oS, lA, lC, lN, zA])
     ·intro _
      simp only [zyH, go_sem, lM]
      intro _
      refine zzb haw ?_
      simp only [go_sem]
end Go.Abs
end
section
namespace Go.Abs
def insAll (h : SHole) (l : List SQual) : List Pred := l.flatMap fun q => instS q h
theorem zJY (h : SHole) (l : List SQual) (q : SQual) : insAll h (l ++ [q]) = insAll h l ++ instS q h := by simp [insAll]
theorem zQ2 {q : SQual} {h : SHole} (hl : lightQ q h = true) : (instS q h).length ≤ 4096 := by
 have ⟨h1, h2⟩ := zz3 hl
 exact Nat.le_trans (zVQ q h) (Nat.le_trans (Nat.pow_le_pow_left h2 _) (Nat.le_trans (Nat.pow_le_pow_right (by decide) (show q.vars.length - 1 ≤ 4 by omega)) (by decide)))
theorem zKm {h : SHole} : ∀ {l : List SQual}, (∀ q ∈ l, lightQ q h = true) → (insAll h l).length ≤ 4096 * l.length
 | [], _ => by simp [insAll]
 | q :: l, hl => by
  have h1 := zQ2 (hl q (by simp))
  have h2 := zKm (l := l) fun q hq => hl q (by simp [hq])
  rw [show insAll h (q :: l) = instS q h ++ insAll h l from rfl, lA, lC]
  omega
variable {E : AEnv} (L : Law45 E)
include L
theorem yyi (l : List SQual) (q : SQual) (h : SHole) (hl : ∀ q ∈ l, q.body.cnt ≤ 1048576) (hq : q.body.cnt ≤ 1048576) :
  E.C zyL [.one (.lst (l.map SQual.cells)), .agg q.cells, .agg h.cells] (.one (.bool true)) := by
 have haw := zx0 L
 have hli := fun q => zwV L.sys q h
 have h1 := fun q (hq : q.body.cnt ≤ 1048576) (hl : lightQ q h = true) => L.inst q h (zz3 hl).1 (zz3 hl).2 (zz6 _ hq)
 have hA := fun (l : List SQual) (hi : ∀ q ∈ l, lightQ q h = true ∧ q.body.cnt ≤ 1048576) => zxP L.sys h l (fun q hq => h1 q (hi q hq).2 (hi q hq).1)
 have hli1 := hli q
 have hhc : h.cells = [.str h.name, .lst (h.params.map SVar.cells)] := rfl
 refine L.sys.zyL _ _ ⟨bl rfl, ?_⟩
 rw [SQual.cellsE] at hli1 ⊢
 rw [hhc] at *
 simp only [zkd, go_sem, lM]
 intro hlen
 cases c0 : decide ((l.length : Int) > 12) with
 | true =>
  simp only [go_sem]
  refine ⟨.one (.bool false), ?_⟩
  simp only [go_sem]
  refine zzb haw ?_
  simp only [go_sem]
 | false =>
  simp only [go_sem, lM]
  refine zzb hli1 ?_
  cases c1 : lightQ q h with
  | false =>
   simp only [go_sem]
   refine zzb haw ?_
   simp only [go_sem]
  | true =>
   simp only [go_sem]
   refine zzn fun K hK => ?_
   refine zzf l (fun done => ∀ q ∈ done, lightQ q h = true) (fun done _ => ⟨[(8, .d (.int .i64 done.length)), (0, .d (.lst (l.map SQual.cells))), (5, .ptr 5 0), (4, .ptr 4 0), (7, .own 7 4 ((insAll h done).map Pred.cells))],
    [(5, [.d (.str h.name), .d (.lst (h.params.map SVar.cells))]), (4, q.cells.map .d)], [(7, true)]⟩) ?_ (by simp) ?_ ?_
   ·rw [SQual.cellsE]
    exact zwJ 7 7 4 [] [(7, 7)] rfl (by simp) rfl (by simp only [Ent0, go_sem, cN, insAll, List.flatMap_nil, mN, mC, oS, lN, nZ])
   ·intro done x r hlx hi
    have hx := SQual.zy7 hlx
    have hlt := zzi hlx
    have hlix := hli x
    have h1x := h1 x (hl x (by rw [hlx]; simp))
    have hfew := zKm hi
    have hdl : done.length < l.length := by rw [hlx]; simp
    have h12 : l.length ≤ 12 := by simp only [decide_eq_false_iff_not] at c0; omega
    have hw : IntKind.i64.wrap ((done.length : Int) + 1) = ((done.length + 1 : Nat) : Int) := zze (by omega)
    have hxf := fun hc => zQ2 (q := x) (h := h) hc
    rw [zJY]
    generalize insAll h done = ia at *
    rw [SQual.cellsE] at hx hlix h1x
    rw [SQual.cellsE]
    simp only [zyS, go_sem, hlt, hx, lM, SQual.lens, mC, mN]
    intro _
    refine zzb hlix ?_
    cases c2 : lightQ x h with
    | false =>
     simp only [go_sem]
     refine zzb haw ?_
     simp only [go_sem, hK]
    | true =>
     have h1x := h1x c2
     have hxf := hxf c2
     generalize instS x h = ix at *
     simp only [go_sem, hlt, hx, lM, SQual.lens]
     refine zzb h1x ?_
     simp only [go_sem, lM, zwD, hw]
     refine ⟨⟨by omega, by omega⟩, zzo [(7, 44)] ?_, ?_⟩
     ·simp only [go_sem, cN, oS, lA, lC, lN, zA, mA, mC, mN]
     ·intro s hs
      rw [List.mem_append, List.mem_singleton] at hs
      rcases hs with hs | rfl
      ·exact hi s hs
      ·exact c2
   ·intro hi
    have hAl := hA l (fun q hq => ⟨hi q hq, hl q hq⟩)
    have hAm := hA (l ++ [q]) (fun x hx => by
     rw [List.mem_append, List.mem_singleton] at hx
     rcases hx with hx | rfl
     ·exact ⟨hi x hx, hl x hx⟩
     ·exact ⟨c1, hq⟩)
    rw [zZm] at hAm
    have hok := yyM l h
    obtain ⟨r, hr⟩ := zW3 (instS q h) (candsQ h l)
    have hbl := zqy (instS q h) (zXJ l h)
    rw [show candS l h = candsQ h l from rfl] at hok hbl
    rw [show (l.flatMap fun q => instS q h) = insAll h l from rfl] at hok
    rw [hr] at hAm hbl
    rw [mA, mC, mN] at hAm
    generalize candsQ h l = a at *
    generalize insAll h l = al at *
    have hsm := zjB L.sys a a
    rw [zw2] at hsm
    rw [SQual.cellsE] at hAm ⊢
    have hal : a.length ≤ 100 := hok.len
    have d1 : decide ((a.length : Int) > 100) = false := by simp; omega
    have d2 : decide (((a ++ r).length : Int) > 100) = false := by simp only [decide_eq_false_iff_not]; omega
    have d3 : decide (((a ++ r).length : Int) < (a.length : Int)) = false := by simp; omega
    have hbM : ((a ++ r).map Pred.cells).take a.length = a.map Pred.cells := by rw [← List.map_take, List.take_left]
    have hle : a.length ≤ (a ++ r).length := by simp
    generalize a ++ r = b at *
    simp only [zyS, go_sem, hK, lM, mC, mN]
    intro _
    refine zzb hAl ?_
    simp only [go_sem, lM, SQual.lens]
    have h12 : l.length ≤ 12 := by simp only [decide_eq_false_iff_not] at c0; omega
    refine ⟨⟨by simp, by omega, by omega⟩, ⟨by simp, by omega, by omega⟩, ?_⟩
    refine zzb hAm ?_
    simp only [go_sem, lM, d1, d2, d3, hbM]
    intro _ _ _ _ _
    refine ⟨by omega, ?_⟩
    refine zzb hsm ?_
    simp only [go_sem]
    refine zzn fun K2 hK2 => ?_
    refine zzf a (fun _ => True) (fun done _ => ⟨[(11, .d (.int .i64 done.length)), (9, .d (.lst (a.map Pred.cells))), (7, .own 7 4 (al.map Pred.cells))], [], [(7, true)]⟩) ?_ trivial ?_ ?_
    ·exact zzo [(7, 7)] (by simp only [go_sem, cN, lN, nZ])
    ·intro done x r2 hl2 _
     have hlt := zzi hl2
     have hx := getD_at (f := Pred.cells) (d := []) hl2
     have hdl : done.length < a.length := by rw [hl2]; simp
     have hin : hasP al x = true := zqF.2 (hok.sub x (by rw [hl2]; simp))
     have hnd : x ∉ done := by
      have := hok.nodup
      rw [hl2, List.nodup_append] at this
      exact fun hm => this.2.2 x hm x (by simp) rfl
     have hno : hasP done x = false := by
      cases h' : hasP done x with
      | false => rfl
      | true => exact absurd (zqF.1 h') hnd
     have htk : (a.map Pred.cells).take done.length = done.map Pred.cells := by rw [← List.map_take, hl2, List.take_left]
     have ham1 := zqg L.sys al x
     have ham2 := zqg L.sys done x
     rw [hin] at ham1
     rw [hno] at ham2
     have hw : IntKind.i64.wrap ((done.length : Int) + 1) = ((done.length + 1 : Nat) : Int) := zze (by omega)
     rw [Pred.zzd] at hx ham1 ham2
     simp only [zyR, go_sem, hlt, hx, lM, zwD, htk]
     intro _
     refine zzb ham1 ?_
     simp only [go_sem, hlt, hx, lM, zwD, htk]
     refine ⟨by omega, ?_⟩
     refine zzb ham2 ?_
     simp only [go_sem, hw]
     exact zzo [(7, 7)] (by simp only [go_sem, cN, lA, lC, lN, zA])
    ·intro _
     simp only [zyR, go_sem, hK2, lM]
     intro _
     refine zzf al (fun _ => True) (fun done _ => ⟨[(12, .d (.int .i64 done.length)), (9, .d (.lst (a.map Pred.cells))), (7, .own 7 4 (al.map Pred.cells))], [], [(7, true)]⟩) ?_ trivial ?_ ?_
     ·exact zzo [(7, 7)] (by simp only [go_sem, cN, lN, nZ])
     ·intro done x r2 hl2 _
      have hlt := zzi hl2
      have hx := getD_at (f := Pred.cells) (d := []) hl2
      have hdl : done.length < al.length := by rw [hl2]; simp
      have ham1 := zqg L.sys a x
      have hfl : a.length < 100 → hasP a x = true := fun hlt => zqF.2 (hok.full hlt x (by rw [hl2]; simp))
      rw [Pred.zzd] at hx ham1
      simp only [zyQ, go_sem, hlt, hx, lM, zwD]
      intro halb _
      have hw : IntKind.i64.wrap ((done.length : Int) + 1) = ((done.length + 1 : Nat) : Int) := zze (by omega)
      cases c5 : decide ((a.length : Int) < 100) with
      | false =>
       simp only [go_sem]
       refine zzb haw ?_
       simp only [go_sem]
      | true =>
       rw [hfl (by simp only [decide_eq_true_eq] at c5; omega)] at ham1
       simp only [go_sem, hlt, hx, lM, zwD]
       refine zzb ham1 ?_
       simp only [go_sem, hw]
       exact zzo [(7, 7)] (by simp only [go_sem, cN, lA, lC, lN, zA])
     ·intro _
      simp only [zyQ, go_sem, lM]
      intro _
      refine zzb haw ?_
      simp only [go_sem]
end Go.Abs
end

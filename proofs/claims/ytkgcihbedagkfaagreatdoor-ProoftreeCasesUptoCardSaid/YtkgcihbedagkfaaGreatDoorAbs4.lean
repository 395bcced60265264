/-
  A LIBRARY OF THE PROOF: an abstract machine over the texts of the translated functions, whose values are plain data, proved sound with regard to the kit's law of calls (names shortened by program).
-/
import Derived.Test.YtkgcihbedagkfaaGreatDoorAbs3
set_option linter.unusedSimpArgs false
set_option linter.unusedVariables false
set_option linter.unusedSectionVars false
set_option maxRecDepth 100000
section
namespace Go.Abs
theorem yxM {E : AEnv} {Q : AX → St → Prop} {st : St} : awp E .skip Q st = Q .normal st := rfl
theorem ykv {E : AEnv} {l : List (Option (Nat × Bool) × I)} {Q : AX → St → Prop} {st : St} : awp E (.reg l) Q st = aops E l (Q .normal) st := rfl
theorem yzO {E : AEnv} {p r : List (Option (Nat × Bool) × I)} {a b : Option (Nat × Bool) × I} {Q : AX → St → Prop} {st : St} : awp E (.regd2 p a b r) Q st = aopsN E p (fun s => aopsN E (a :: b :: r) (Q .normal) s ∧ aopsN E (b :: a :: r) (Q .normal) s) st := rfl
theorem yxJ {E : AEnv} {F : List Nat} {l : List (Option (Nat × Bool) × I)} {Q : AX → St → Prop} {st : St} : awp E (.regn F l) Q st = aopsNF F E l (Q .normal) st := rfl
theorem zQx {F : List Nat} {E : AEnv} {K : St → Prop} {st : St} : aopsNF F E [] K st = K st := rfl
theorem zVD {F : List Nat} {E : AEnv} {g : Option (Nat × Bool)} {o : I} {os : List (Option (Nat × Bool) × I)} {K : St → Prop} {st : St} : aopsNF F E ((g, o) :: os) K st = (chkF F st o ∧ aopN E g o st (aopsNF F E os K)) := rfl
theorem yxI {E : AEnv} {l : List (Option (Nat × Bool) × I)} {Q : AX → St → Prop} {st : St} : awp E (.regd l) Q st = aopsN E l (Q .normal) st := rfl
theorem yxL {E : AEnv} {l : List (Option (Nat × Bool) × I)} {Q : AX → St → Prop} {st : St} : awp E (.regz l) Q st = frzW E l (Q .normal) st := rfl
theorem yvk {E : AEnv} {l : List (Option (Nat × Bool) × I)} {K : St → Prop} {st : St} (B : List Nat) (h1 : okDrop B (memOut B st.mem) = true) (h2 : aopsN E l K (st.frzBox B)) : frzW E l K st := ⟨B, h1, h2⟩
theorem yxK {E : AEnv} {l : List (Option (Nat × Bool) × I)} {Q : AX → St → Prop} {st : St} : awp E (.regq l) Q st = aopsN E l (fun s => Q .normal (st.thaw (wrsOf l) s)) st.frzAll := rfl
attribute [go_sem] yxL yxK St.frzAll St.thaw thawS wrsOf flatOf frzA Option.toList_some Option.toList_none
theorem yxG {E : AEnv} {c : X} {a b : AC} {Q : AX → St → Prop} {st : St} : awp E (.cond c a b) Q st = match ev st c with
  | .d (.bool x) => gd st c = true ∧ (if x = true then awp E a Q st else awp E b Q st)
  | _ => False := by
 simp only [awp]
 generalize ev st c = v
 cases v with
 | d x =>
  cases x with
  | bool x => cases x <;> simp
  | _ => rfl
 | _ => rfl
theorem yzN {E : AEnv} {id : Nat} {c : AC} {Q : AX → St → Prop} {st : St} : awp E (.block id c) Q st = awp E c (blockK id Q) st := rfl
theorem yxH {E : AEnv} {id : Nat} {Q : AX → St → Prop} {st : St} : awp E (.exit id) Q st = Q (.exit id) st := rfl
theorem ykw {E : AEnv} {Q : AX → St → Prop} {st : St} : awp E .ret Q st = Q .ret st := rfl
theorem yxD {E : AEnv} {K : St → Prop} {st : St} : aops E [] K st = K st := rfl
theorem yzI {E : AEnv} {g : Option (Nat × Bool)} {o : I} {os : List (Option (Nat × Bool) × I)} {K : St → Prop} {st : St} : aops E ((g, o) :: os) K st = aop E g o st (aops E os K) := rfl
theorem yzH {E : AEnv} {K : St → Prop} {st : St} : aopsN E [] K st = K st := rfl
theorem zQy {E : AEnv} {g : Option (Nat × Bool)} {o : I} {os : List (Option (Nat × Bool) × I)} {K : St → Prop} {st : St} : aopsN E ((g, o) :: os) K st = aopN E g o st (aopsN E os K) := rfl
theorem zY6 {N : St → Prop} {Q : AX → St → Prop} {s : St} : seqK N Q .normal s = N s := rfl
theorem yxh {N : St → Prop} {Q : AX → St → Prop} {s : St} {i : Nat} : seqK N Q (.exit i) s = Q (.exit i) s := rfl
theorem ywR {N : St → Prop} {Q : AX → St → Prop} {s : St} : seqK N Q .ret s = Q .ret s := rfl
theorem zWy {id : Nat} {Q : AX → St → Prop} {s : St} : blockK id Q .normal s = Q .normal s := rfl
theorem zYg {id i : Nat} {Q : AX → St → Prop} {s : St} : blockK id Q (.exit i) s = if i = id then Q .normal s else Q (.exit i) s := rfl
theorem zQC {id : Nat} {Q : AX → St → Prop} {s : St} : blockK id Q .ret s = Q .ret s := rfl
theorem zJn {rs : List R} {r : CV} {st : St} : retK rs r .normal st = retOk st r rs := rfl
theorem ywJ {rs : List R} {r : CV} {st : St} : retK rs r .ret st = retOk st r rs := rfl
theorem zQI (xs : List D) : cells1 (xs.map AV.d) = true := by
 induction xs with
 | nil => rfl
 | cons x xs ih => exact ih
theorem zQs (m : Mem) (n : Nat) (xs : List D) : toDs m n (xs.map AV.d) = some xs := by
 induction xs with
 | nil => rfl
 | cons x xs ih => cases n <;> simp [toDs, AV.toD, ih]
theorem yzU {v : Bool} {g : Option Bool} {d : Nat} {K : St → Prop} {st : St} {as : List AV} {x : D} : callK v g (some d) K st as (.one x) = K (st.put g d (.d x)) := rfl
theorem yzT {v : Bool} {g : Option Bool} {d : Nat} {K : St → Prop} {st : St} {as : List AV} {x : List D} : callK v g (some d) K st as (.agg x) = K (st.put g d (.agg (x.map .d))) := rfl
theorem yzW {v : Bool} {g : Option Bool} {d : Nat} {K : St → Prop} {st : St} {as : List AV} {x : List CV} : callK v g (some d) K st as (.tup x) = K (st.put g d (.tup (CV.toAV0s x))) := rfl
theorem yzV {v : Bool} {g : Option Bool} {d : Nat} {K : St → Prop} {st : St} {as : List AV} {a : Option Nat} {sz : Nat} {es : List (List D)} : callK v g (some d) K st as (.own a sz es) = ((g = none ∧ getT st.tk d = none ∧ argOwn st.tk as sz a) ∧ K { (st.put none d (.own d sz es)) with tk := (d, true) :: tkUse (ownTok as a) st.tk }) := rfl
theorem zVJ {v : Bool} {g : Option Bool} {K : St → Prop} {st : St} {as : List AV} {x : D} : callK v g none K st as (.one x) = K st := rfl
theorem zVK {v : Bool} {g : Option Bool} {K : St → Prop} {st : St} {as : List AV} {x : List D} : callK v g none K st as (.agg x) = K st := rfl
theorem zVL {v : Bool} {g : Option Bool} {K : St → Prop} {st : St} {as : List AV} {x : List CV} : callK v g none K st as (.tup x) = K st := rfl
theorem zVk {rs : List R} {sz : Nat} {es : List (List D)} {st : St} : retKO rs sz es .normal st = retOwn st sz es rs := rfl
theorem yy4 {rs : List R} {sz : Nat} {es : List (List D)} {st : St} : retKO rs sz es .ret st = retOwn st sz es rs := rfl
theorem yxR {v : Bool} {g : Option Bool} {d : Nat} {K : St → Prop} {st : St} {as : List AV} {sz : Nat} {es : List (List D)} : callK v g (some d) K st as (.vc sz es) = ((v = true ∧ g = none ∧ getM st.mem d = none) ∧ (es = [] → K (st.put none d (.d (.lst [])))) ∧ (es ≠ [] → ∀ cap, es.length ≤ cap → cap ≤ 9223372036854775807 →
  K { (st.put none d (.vec d sz 0 es.length cap)) with mem := (d, es.flatten.map .d ++ List.replicate (cap * sz - es.length * sz) .undef) :: st.mem })) := rfl
theorem yxV (m : Mem) (x : D) : AV.elemsM m (.d x) = AV.elems (.d x) := rfl
theorem zVS (m : Mem) (es : List (List D)) : AV.elemsM m (.full es) = some es := rfl
theorem zQN (m : Mem) (t sz : Nat) (es : List (List D)) : AV.elemsM m (.own t sz es) = some es := rfl
theorem ykG (x : D) : AV.isVec (.d x) = false := rfl
theorem zQZ (es : List (List D)) : AV.isVec (.full es) = false := rfl
theorem yyu (t sz : Nat) (es : List (List D)) : AV.isVec (.own t sz es) = false := rfl
theorem yyv (s e o n c : Nat) : AV.isVec (.vec s e o n c) = true := rfl
attribute [go_sem] yxR yxV zVS zQN ykG zQZ yyu yyv
theorem zzb {v : Bool} {E : AEnv} {f : FuncId} {args : List CV} {r : CV} {g : Option Bool} {d : Option Nat} {K : St → Prop} {st : St} {as : List AV} (h : E.C f args r) (hk : callK v g d K st as r) : ∃ r, E.C f args r ∧ callK v g d K st as r := ⟨r, h, hk⟩
theorem yzP {E : AEnv} {c : AC} {Q : AX → St → Prop} {st : St} : awp E (.scope c) Q st = awp E c Q st := rfl
theorem yku {E : AEnv} {Q : AX → St → Prop} {st : St} : awp E .lab Q st = Q .normal st := rfl
theorem ykt {E : AEnv} {a b : AC} {Q : AX → St → Prop} {st : St} : awp E (.alt a b) Q st = (awp E a Q st ∧ awp E b Q st) := rfl
theorem yyh (t : Nat) (xs : List D) (l : List D) : AV.fills t xs (l.map .d) = l.map .d := by
 induction l with
 | nil => rfl
 | cons x l ih => simp only [List.map_cons, AV.fills, AV.fill, ih]
theorem yvj (t : Nat) (xs : List D) (x : D) : AV.fill t xs (.d x) = .d x := by simp only [AV.fill]
theorem yyf (t : Nat) (xs : List D) (x : List (List D)) : AV.fill t xs (.full x) = .full x := by simp only [AV.fill]
theorem yx3 (t : Nat) (xs : List D) (s o : Nat) : AV.fill t xs (.ptr s o) = .ptr s o := by simp only [AV.fill]
theorem zQQ (t : Nat) (xs : List D) : AV.fill t xs .undef = .undef := by simp only [AV.fill]
theorem yyg (t : Nat) (xs : List D) (s : Nat) : AV.fill t xs (.mref s) = .mref s := by simp only [AV.fill]
theorem yx0 (t : Nat) (xs : List D) (k e : Nat) (l : List (D × MV)) : AV.fill t xs (.mp k e l) = .mp k e l := by simp only [AV.fill]
theorem yx5 (t : Nat) (xs : List D) (s e o n c : Nat) : AV.fill t xs (.vec s e o n c) = .vec s e o n c := by simp only [AV.fill]
theorem yx6 (t : Nat) (xs : List D) (s : Nat) : AV.fill t xs (.zsl s) = .zsl s := by simp only [AV.fill]
theorem yx1 (t : Nat) (xs : List D) (u sz : Nat) (es : List (List D)) : AV.fill t xs (.own u sz es) = if u = t then .undef else .own u sz es := by simp only [AV.fill]
theorem yx2 (t : Nat) (xs : List D) (u sz : Nat) (es : List (List D)) : AV.fill t xs (.pnd u sz es) = if u = t then .own u sz (es ++ [xs]) else .pnd u sz es := by simp only [AV.fill]
theorem yye (t : Nat) (xs : List D) (u sz : Nat) : AV.fill t xs (.eptr u sz) = if u = t then .undef else .eptr u sz := by simp only [AV.fill]
theorem yxY (t : Nat) (xs : List D) (cs : List AV) : AV.fill t xs (.agg cs) = .agg (AV.fills t xs cs) := by simp only [AV.fill]
theorem yx4 (t : Nat) (xs : List D) (cs : List AV) : AV.fill t xs (.tup cs) = .tup (AV.fills t xs cs) := by simp only [AV.fill]
theorem yxZ (t : Nat) (xs : List D) (f : FuncId) (cs : List AV) : AV.fill t xs (.clo f cs) = .clo f (AV.fills t xs cs) := by simp only [AV.fill]
theorem yyd (t : Nat) (xs : List D) (g : Bool) (a : AV) : AV.fill t xs (.cond g a) = .cond g (AV.fill t xs a) := by simp only [AV.fill]
attribute [go_sem] yzP yku ykt yyh yvj yyf yx3 zQQ yyg yx0 yx5 yx6 yx1 yx2 yye yxY yx4 yxZ yyd AV.fills fillSlots fillMem St.fill AV.isZsl AV.isEptr
theorem zJN {E : AEnv} {f : FuncId} {caps : List D} {cvs : List CV} {r : CV} {g : Option Bool} {d : Option Nat} {gs : Bool} {K : St → Prop} {st : St} {as : List AV} {sk : Prop} (hc : toCVs st.mem 3 as = some cvs) (hf : r.flat = true) (hg : onG g (gs = true)) (h : E.C f (cvs ++ caps.map .one) r) (hk : callK false g d K st as r) : callW E g d f caps gs as K st sk :=
 .inl (.inl (by rw [hc]; exact .inl ⟨r, by cases g with | none => exact ⟨hg, hf, h⟩ | some b => exact fun hb => ⟨hg hb, hf, h⟩, hk⟩))
theorem zZT {E : AEnv} {f : FuncId} {caps : List D} {cvs : List CV} {r : CV} {d : Option Nat} {gs : Bool} {K : St → Prop} {st : St} {as : List AV} {sk : Prop} (hc : toCVs st.mem 3 as = some cvs) (hr : r.isOwn = false) (hg : gs = true) (h : E.C f (cvs ++ caps.map .one) r) (hk : callK false none d K st.noBox as r) : callW E none d f caps gs as K st sk :=
 .inl (.inl (by rw [hc]; exact .inr ⟨r, ⟨rfl, hg, hr, h⟩, hk⟩))
theorem zjX {E : AEnv} {f : FuncId} {caps : List D} {d : Option Nat} {gs : Bool} {K : St → Prop} {st : St} {as : List AV} {sk : Prop} (x : BArgs) (h : E.C f [] (.bx x.as0 x.m0 (tkOf x.τ) x.r x.m1 (tkOf x.τ1))) (hr : x.r.isOwn = false) (hg : gs = true) (ho : okB st (as ++ caps.map .d) x) (hk : K (afterB st d x)) : callW E none d f caps gs as K st sk :=
 .inl (.inr (.inl ⟨x, ⟨rfl, hg, hr, ho, h⟩, hk⟩))
theorem zWz {E : AEnv} {f : FuncId} {caps : List AV} {d : Option Nat} {gs : Bool} {K : St → Prop} {st : St} {as : List AV} {sk : Prop} (x : BArgs) (h : E.C f [] (.bx x.as0 x.m0 (tkOf x.τ) x.r x.m1 (tkOf x.τ1))) (hr : x.r.isOwn = false) (hg : gs = true) (ho : okB st (as ++ caps) x) (hk : K (afterB st d x)) : callC E none d f caps gs as K st sk :=
 .inl ⟨x, ⟨rfl, hg, hr, ho, h⟩, hk⟩
theorem zqM {E : AEnv} {f : FuncId} {caps : List D} {g : Option Bool} {d : Option Nat} {gs : Bool} {K : St → Prop} {st : St} {as : List AV} {sk : Prop} (h : sk) : callW E g d f caps gs as K st sk := .inr h
theorem yzS (l : List D) : AV.boxeds (l.map .d) = false := by
 induction l with
 | nil => rfl
 | cons x l ih => rw [List.map_cons, AV.boxeds, AV.boxed, ih]; rfl
attribute [go_sem] mkC dsOf St.noBox dropB AV.boxed AV.boxeds yzS idxA lfromA ltoA lmaxA vecTo
theorem zVA (σ τ : TMap) (l : List D) : Matches σ τ (l.map .d) (l.map .d) = True := by
 induction l with
 | nil => rfl
 | cons x l ih => simp only [List.map_cons, Matches, Match1, Match0, AV.toD, true_and, ih]
theorem ywk (σ τ : TMap) (l : List D) : (l.map AV.d).map (AV.ren1 σ τ) = l.map .d := by rw [List.map_map]; rfl
theorem yzE (l : List D) : (l.map AV.d).all keep1 = true := by rw [List.all_map]; exact List.all_eq_true.2 fun _ _ => rfl
attribute [go_sem] zVA ywk yzE
theorem yzK {a p : Prop} : appG none a p = p := rfl
theorem ykp {a p : Prop} : appG (some true) a p = p := rfl
theorem yxE {a p : Prop} : appG (some false) a p = a := rfl
theorem yww : onB none = true := rfl
theorem ywx {b : Bool} : onB (some b) = b := by cases b <;> rfl
attribute [go_sem] yzK ykp yxE yww ywx
theorem mapM_nil' {α β : Type} (f : α → Option β) : [].mapM f = some [] := rfl
theorem mapM_cons' {α β : Type} (f : α → Option β) (a : α) (l : List α) : (a :: l).mapM f = match f a with | some b => (match l.mapM f with | some bs => some (b :: bs) | none => none) | none => none := by
 simp only [List.mapM_cons, Option.bind_eq_bind, Option.pure_def]
 cases f a with
 | none => rfl
 | some b => cases l.mapM f <;> rfl
attribute [go_sem] mapM_nil' mapM_cons'
attribute [go_sem] yxJ zQx zVD chkF yxM ykv yxI yzO yxG yzN yxH ykw yzU yzT yzW yzV zVJ zVK zVL zVk yy4 ownTok tkUse argOwn retOwn initO
theorem ykx {E : AEnv} {g : X} {ps wl : List Nat} {a b : AC} {Q : AX → St → Prop} {st : St} : awp E (.rng g ps wl a b) Q st = match ev st g with
  | .d (.clo f caps) => gd st g = true ∧ ∃ xs, E.It f caps xs ∧ rngL (fun Q' => awp E a (seqK (awp E b Q') noK)) ps wl xs Q st
  | _ => False := rfl
theorem zJq {wl : List Nat} {N : St → Prop} {Q : AX → St → Prop} {s : St} : rngK wl N Q .normal s = N (s.dropW wl) := rfl
theorem yy6 {wl : List Nat} {N : St → Prop} {Q : AX → St → Prop} {s : St} {i : Nat} : rngK wl N Q (.exit i) s = Q (.exit i) (s.dropW wl) := rfl
theorem ywL {wl : List Nat} {N : St → Prop} {Q : AX → St → Prop} {s : St} : rngK wl N Q .ret s = Q .ret (s.dropW wl) := rfl
attribute [go_sem] ykx zJq yy6 ywL setPs inN dropS St.dropW
theorem yky {E : AEnv} {a b : AC} {Q : AX → St → Prop} {st : St} : awp E (.seq a b) Q st = awp E a (seqK (awp E b Q) Q) st := rfl
theorem yyD (a b : List UInt8) : likeD (.str a) (.str b) = true := rfl
theorem zQ2 (a b : Bool) : likeD (.bool a) (.bool b) = true := rfl
theorem yyC (a b : Int) : likeD (.int .i64 a) (.int .i64 b) = true := rfl
theorem yyw (a b : List UInt8) : keyEq (.str a) (.str b) = (a == b) := rfl
theorem zQ0 (a b : Bool) : keyEq (.bool a) (.bool b) = (a == b) := rfl
attribute [go_sem] eqDs likeDs yyw zQ0
attribute [go_sem] yyD zQ2 yyC flatD plainD AV.isMp
attribute [go_sem] yky guardOf onG getS getM getT ev ev0 gd AV.strip AV.grd gds evs evParts gdParts opv dstOf St.put AV.cells AV.elems rdMem asOne lenOf binA aopG aopW skipG skipK wrOf aop aopN yxD yzI yzH zQy
 zY6 yxh ywR zWy zYg zQC zJn ywJ zQI zQs List.length_map fillA AV.solid cells1 toElems toDs AV.toD AV.toCV toCVs tkKill CV.toAV0 CV.toAV0s initSlots retOk resCV resCVs resAV
 EntSlots EntMem EntV EntC EntCs AV.plain AV.plains tkOf mpOk getTM convs conv1
 List.map_cons List.map_nil List.drop_zero List.drop_succ_cons List.drop_nil List.take_zero List.take_succ_cons List.take_nil List.length_cons List.length_nil List.headD_cons List.take_of_length_le Nat.le_refl List.cons_append List.nil_append List.append_nil
 List.getD_cons_zero List.getD_cons_succ List.set_cons_zero List.set_cons_succ List.getElem?_cons_zero List.getElem?_cons_succ
 reduceIte true_and and_true Bool.true_and Bool.and_true Bool.and_self Int.toNat_natCast Option.some.injEq forall_const true_implies
theorem yzA (m1 : Mem) (mp : TMap) (l : List D) : EntCs m1 mp (l.map .d) (l.map .d) = True := by
 induction l with
 | nil => rfl
 | cons x l ih => simp [EntCs, EntC, ih]
attribute [go_sem] yzA
attribute [go_sem] Bool.or_self Bool.or_true Bool.true_or Bool.or_false Bool.false_or Bool.not_true Bool.not_false Bool.and_false Bool.false_and imp_self implies_true CV.one.injEq CV.tup.injEq CV.agg.injEq D.bool.injEq D.int.injEq D.str.injEq List.cons.injEq false_implies Int.natCast_nonneg Int.lt_irrefl Int.le_refl decide_true decide_false
theorem zzc {st st1 : St} (h : st1.tk = [] ∧ EntSlots st st1.mem [] st1.slots ∧ EntMem st st1.mem [] st1.mem) : Ent st st1 := ⟨[], [], _, rfl, h.1, trivial, h.2.1, h.2.2⟩
theorem zzo {E : AEnv} {c : AC} {Q : AX → St → Prop} {α : Type} (S : α → St) (I : α → Prop) (μ : α → Nat) (a0 : α) {st : St} (h0 : Ent st (S a0)) (hi : I a0)
  (hstep : ∀ a, I a → awp E c (seqK (fun s => ∃ a', Ent s (S a') ∧ I a' ∧ μ a' < μ a) Q) (S a)) : awp E (.loop c) Q st := by
 have key : ∀ (n : Nat) (a : α) {st : St}, μ a < n → Ent st (S a) → I a → awp E (.loop c) Q st := by
  intro n
  induction n with
  | zero => intro a st h; omega
  | succ n ih =>
   intro a st hn h0 hi
   refine zYf h0 (zZS c (zkg (fun s h => ?_) fun _ _ h => h) (hstep a hi))
   obtain ⟨a', h1, h2, h3⟩ := h
   exact ih a' (by omega) h1 h2
 exact key _ a0 (Nat.lt_succ_self _) h0 hi
theorem zzs {st st1 : St} (mp : TMap) (h : st1.tk = tkOf mp ∧ mpOk st mp [] ∧ EntSlots st st1.mem mp st1.slots ∧ EntMem st st1.mem mp st1.mem) : Ent st st1 := ⟨[], mp, st, rfl, h⟩
theorem zxc {st st1 : St} (k t sz : Nat) (es : List (List D)) (mp : TMap) (h1 : getS st.slots k = .full es) (h2 : ∀ e ∈ es, e.length = sz) (h3 : getT st.tk t = none)
  (h : Ent0 mp { st with slots := (k, .own t sz es) :: st.slots, tk := (t, true) :: st.tk } st1) : Ent st st1 := ⟨[(.s k, t, sz)], mp, _, ⟨_, ⟨es, h1, h2, h3, rfl⟩, rfl⟩, h⟩
attribute [go_sem_proc] Nat.reduceEqDiff reduceCtorEq Nat.reduceAdd Nat.reduceLeDiff Nat.reduceMul Nat.reduceLT
attribute [go_sem] Bool.false_eq_true Bool.true_eq_false
theorem oS {α : Type} {a : α} : (some a).isSome = true := rfl
theorem lA {α : Type} {as bs : List α} : (as ++ bs).length = as.length + bs.length := List.length_append
theorem lM {α β : Type} {as : List α} (f : α → β) : (List.map f as).length = as.length := List.length_map f
theorem lC {α : Type} {a : α} {as : List α} : (a :: as).length = as.length + 1 := rfl
theorem lN {α : Type} : ([] : List α).length = 0 := rfl
theorem zA (n : Nat) : 0 + n = n := Nat.zero_add n
theorem mA {α β : Type} {f : α → β} {l m : List α} : List.map f (l ++ m) = List.map f l ++ List.map f m := List.map_append
theorem mC {α β : Type} {f : α → β} {a : α} {l : List α} : List.map f (a :: l) = f a :: List.map f l := rfl
theorem mN {α β : Type} {f : α → β} : List.map f [] = [] := rfl
theorem nZ : ((0 : Nat) : Int) = 0 := rfl
theorem cN {α : Type} {a : α} [BEq α] : ([] : List α).contains a = false := rfl
theorem bl {n m : Nat} (h : n.ble m = true) : n ≤ m := Nat.le_of_ble_eq_true h
end Go.Abs
end
section
namespace Go.Abs
inductive Pred where
 | mk (op : Int) (name : List UInt8) (n : Int) (kids : List Pred)
namespace Pred
def op : Pred → Int | .mk o _ _ _ => o
def name : Pred → List UInt8 | .mk _ s _ _ => s
def n : Pred → Int | .mk _ _ n _ => n
def kids : Pred → List Pred | .mk _ _ _ k => k
mutual
def cells : Pred → List D
 | .mk o s n ks => [.int .i64 o, .str s, .int .i64 n, .lst (cellss ks)]
def cellss : List Pred → List (List D)
 | [] => []
 | k :: ks => cells k :: cellss ks
end
theorem zYl (ks : List Pred) : cellss ks = ks.map cells := by
 induction ks with
 | nil => simp [cellss]
 | cons k ks ih => simp [cellss, ih]
theorem zzt (p : Pred) : cells p = [.int .i64 p.op, .str p.name, .int .i64 p.n, .lst (p.kids.map cells)] := by
 cases p; simp [cells, op, name, n, kids, zYl]
theorem zx4 (p : Pred) : (cells p).length = 4 := by rw [zzt]; rfl
theorem zQJ (p : Pred) : (cells p).take 4 = cells p := List.take_of_length_le (by rw [zx4]; omega)
theorem ind {P : Pred → Prop} (h : ∀ o s n ks, (∀ k ∈ ks, P k) → P (.mk o s n ks)) : ∀ p, P p :=
 fun p => Pred.rec (motive_1 := P) (motive_2 := fun ks => ∀ k ∈ ks, P k) h (fun k hk => by cases hk) (fun k ks hk hks x hx => by
  rcases List.mem_cons.1 hx with rfl | hx
  ·exact hk
  ·exact hks x hx) p
attribute [go_sem] zx4
theorem lens (l : List Pred) : ∀ e ∈ l.map cells, e.length = 4 := by
 intro e he; obtain ⟨p, _, rfl⟩ := List.mem_map.1 he; exact zx4 p
theorem yyB (l : List Pred) : (∀ e ∈ l.map cells, e.length = 4) = True := eq_true (lens l)
attribute [go_sem] yyB zQJ
end Pred
theorem zv6 {α β : Type} (f : α → β) (a : List α) (x : α) (b : List α) (d : β) : ((a ++ x :: b).map f).getD a.length d = f x := by simp
theorem i64_in (n : Int) (h : -9223372036854775808 ≤ n ∧ n ≤ 9223372036854775807) : IntKind.i64.wrap n = n := by
 unfold IntKind.wrap
 simp only [IntKind.signed, IntKind.bits, Bool.true_and, ge_iff_le, decide_eq_true_eq]
 by_cases h' : (2 : Int) ^ (64 - 1) ≤ n % 2 ^ 64
 ·rw [if_pos h']; omega
 ·rw [if_neg h']; omega
theorem zzd {n : Nat} (h : (n : Int) + 1 ≤ 9223372036854775807) : IntKind.i64.wrap ((n : Int) + 1) = ((n + 1 : Nat) : Int) := by
 rw [i64_in _ (by omega)]; omega
theorem zzw {α : Type} {l a b : List α} {x : α} (h : l = a ++ x :: b) : (a.length : Int) < l.length := by rw [h]; simp; omega
end Go.Abs
end

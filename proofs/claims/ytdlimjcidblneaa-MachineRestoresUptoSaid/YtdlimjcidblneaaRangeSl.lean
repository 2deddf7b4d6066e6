/-
  A range over a function in the separation logic: what an iterator promises (Seq), and the statement's rule. No Go program in it.
-/
import Derived.Test.YtdlimjcidblneaaSl
import Derived.RangeFuncNested
import Derived.RangeFuncBound
import Derived.RangeFuncCalls
import Derived.RangeFuncLeaves
import Derived.RangeFuncRecord
import Derived.RangeFuncIn
import Derived.OwnWalkIn
import Derived.TacticsInMore
import Derived.LoopNIn
import Derived.LoopIn
namespace Sl
open Go Go.RowKit

/-- Whatever is known under M is known under L. -/
def Ent (w0 : World) (M L : List HP) : Prop := ∀ w, Sat w0 w M → Sat w0 w L
theorem Ent.refl {w0 : World} (L : List HP) : Ent w0 L L := fun _ h => h
theorem Ent.cons {w0 : World} {M L : List HP} {p : HP} (h : Ent w0 M L) : Ent w0 (p :: M) L := fun w hs => h w hs.tail
theorem Ent.trans {w0 : World} {M L K : List HP} (h : Ent w0 M L) (k : Ent w0 L K) : Ent w0 M K := fun w hs => k w (h w hs)
theorem Rd.ent {w0 : World} {M L : List HP} {A n sz xs} (h : Ent w0 M L) (r : Rd w0 L A n sz xs) : Rd w0 M A n sz xs := fun w hs => r w (h w hs)
theorem Cl.ent {w0 : World} {M L : List HP} {a v} (h : Ent w0 M L) (r : Cl w0 L a v) : Cl w0 M a v := fun w hs => r w (h w hs)

/-- The caller's side of yield: at element k it goes on (Inv (k+1)) or has said 'no more' (Stop k). -/
def YieldOK (P : Program) (w0 : World) (L : List HP) (xs : List (Array Value)) (l : Nat) (Inv Stop : Nat → HP) : Prop :=
  ∀ (k : Nat) (M : List HP) (w : World) (x : Array Value), xs[k]? = some x → Ent w0 M L → Sat w0 w (Inv k :: M) →
    YieldAt Fence.wide 0 P l x w fun e w' => (e = .returned (.bool true) ∧ Sat w0 w' (Inv (k + 1) :: M)) ∨ (e = .returned (.bool false) ∧ Sat w0 w' (Stop k :: M))

/-- The iterator's side: called with yield it yields the elements xs in order till it is told to stop. T: what it uses up. -/
def Seq (P : Program) (gf : FuncId) (lb : Array Value) (w0 : World) (L : List HP) (T : HP) (xs : List (Array Value)) : Prop :=
  ∀ (l : Nat) (Inv Stop : Nat → HP) (M : List HP) (w : World), YieldOK P w0 L xs l Inv Stop → Ent w0 M L → Sat w0 w (Inv 0 :: T :: M) →
    CallsIn Fence.wide 0 P gf (#[.func (.yield l) #[] #[]] ++ lb) w fun e w' => (∃ v, e = .returned v) ∧ (Sat w0 w' (Inv xs.length :: M) ∨ ∃ k, k < xs.length ∧ Sat w0 w' (Stop k :: M))

/-- What a round's body is to bring about. -/
def RoundSl (w0 : World) (M : List HP) (I : Nat → HP) (S : Code → Nat → HP) (k : Nat) : Exit → Act → World → Prop
  | .normal, _, w => Sat w0 w (I (k + 1) :: M)
  | .ret, _, w => Sat w0 w (S .ret k :: M)
  | .exit id, _, w => Sat w0 w (S (.exit id) k :: M)
  | .goto t, _, w => Sat w0 w (S (.goto t) k :: M)
  | _, _, _ => False

theorem Sat.putObj {w0 w : World} {L : List HP} {b : Nat} {o : Obj} (o' : Obj) (h : Sat w0 w (blk b o :: L)) : Sat w0 (w.putObj b o') (blk b o' :: L) :=
  h.put (World.putObj_heap_same (Array.getElem?_eq_some_iff.1 (h.get (.here _))).1) (fun _ hk _ => World.putObj_heap_other hk) rfl rfl rfl

section
variable {P : Program} {w0 : World}

theorem wl_rangeFunc {g : Operand} {ps : Array Tmp} {assign body : Code} {Q : Exit → Act → World → Prop} {a : Act} {w : World} {gf : FuncId} {lb : Array Value} {L : List HP} {T : HP} {xs : List (Array Value)}
    (hg : a.eval g = .func (.func gf) #[] lb) (heg : ∀ args w, (callFunc gf args).run P w = .ok (.enter gf args) w) (hseq : Seq P gf lb w0 L T xs) (hps : ∀ x ∈ xs, x.size = ps.size)
    (I : Nat → HP) (S : Code → Nat → HP) (hs : Sat w0 w (I 0 :: T :: L))
    (hround : ∀ (l k : Nat) (x : Array Value) (W : World) (M : List HP), xs[k]? = some x → Ent w0 M L → Sat w0 W (I k :: M) →
      assign.wpIn (Fence.wide.inRound l) 0 P (Exit.then (fun a₁ W1 => ∃ I', Sat w0 W1 (I' :: M) ∧ ∀ W2 M', Ent w0 M' L → Sat w0 W2 (I' :: M') → body.wpIn (Fence.wide.inRound l) 0 P (RoundSl w0 M' I S k) a₁ W2) (fun _ _ _ => False))
        { tmps := (ps.zip x).foldl (fun t (p, v) => t.setIfInBounds p v) a.tmps, defers := [] } W)
    (hdone : ∀ (D : Nat) (W : World), Sat w0 W (blk D (.deferred (some [])) :: I xs.length :: L) → Q .normal { a with defers := { target := .collected D, args := #[] } :: a.defers } W)
    (hstop : ∀ (D : Nat) (W : World) (c : Code) (k : Nat), k < xs.length → Sat w0 W (blk D (.deferred (some [])) :: S c k :: L) → c.wp P Q { a with defers := { target := .collected D, args := #[] } :: a.defers } W) :
    (Code.rangeFunc g ps assign body).wp P Q a w := by
  refine wpIn_wide (n := 0).1 (wpIn_rangeFunc ?_)
  intro fn _
  obtain ⟨rec, hrec⟩ : ∃ rec : LoopState → Option Code → Loop, rec = fun st pe => { state := st, pending := pe, fn, tmps := a.tmps, params := ps, assign, body, defers := w.heap.size } := ⟨_, rfl⟩
  have hs1 : Sat w0 ((w.alloc (.deferred (some []))).alloc (.loop (rec .ready none))) (blk (w.heap.size + 1) (.loop (rec .ready none)) :: blk w.heap.size (.deferred (some [])) :: I 0 :: T :: L) := by
    have := (hs.alloc (.deferred (some []))).alloc (.loop (rec .ready none))
    rwa [World.size_alloc] at this
  obtain ⟨W1, hW1⟩ : ∃ W1, (w.alloc (.deferred (some []))).alloc (.loop (rec .ready none)) = W1 := ⟨_, rfl⟩
  rw [hW1] at hs1
  generalize hl : w.heap.size + 1 = l at hs1
  generalize hD : w.heap.size = D at hs1
  refine ⟨l, [{ target := .collected D, args := #[] }], W1, { target := .fn (.func gf) lb, args := #[.func (.yield l) #[] #[]] }, W1, gf, #[.func (.yield l) #[] #[]] ++ lb, W1, ?_, ?_, fun _ _ => trivial, ?_, fun h => (by cases h), ?_⟩
  · rw [show Fence.wide.round = none from rfl, run_enterLoop_outer]
    rw [← hW1, ← hl, ← hD, hrec]
  · simp [resolve, hg, Deferred.ofValue]; rfl
  · simp [invoke, heg]
  · have hj : ∀ (k : Nat) (W : World) (M : List HP), Sat w0 W (blk l (.loop (rec .ready none)) :: blk D (.deferred (some [])) :: I k :: M) → Sat w0 W (SatH [blk l (.loop (rec .ready none)), blk D (.deferred (some [])), I k] :: M) := fun k W M h => Sat.join (M := [_, _, _]) h
    have hY : YieldOK P w0 L xs l (fun k => SatH [blk l (.loop (rec .ready none)), blk D (.deferred (some [])), I k]) (fun k h => ∃ c, SatH [blk l (.loop (rec .done (some c))), blk D (.deferred (some [])), S c k] h) := by
      intro k M W x hx hent hsW
      have h1 : Sat w0 W ([blk l (.loop (rec .ready none)), blk D (.deferred (some [])), I k] ++ M) := hsW.split
      simp only [List.cons_append, List.nil_append] at h1
      have hxm : x ∈ xs := List.mem_of_getElem? hx
      have hrl : (rec .ready none).params = ps ∧ (rec .ready none).tmps = a.tmps ∧ (rec .ready none).assign = assign ∧ (rec .ready none).body = body ∧ (rec .ready none).state = .ready := by rw [hrec]; exact ⟨rfl, rfl, rfl, rfl, rfl⟩
      refine ⟨_, _, _, _, run_yield (h1.get (.here _)) (by rw [hrl.1]; exact hps x hxm), roundIn_of_wpIn trivial ?_⟩
      rw [hrl.1, hrl.2.1, hrl.2.2.1, hrl.2.2.2.1]
      have h0 : Sat w0 W (I k :: blk l (.loop (rec .ready none)) :: blk D (.deferred (some [])) :: M) := h1.pick (.cons (.there _ _ _ (.there _ _ _ (.here _))) (.tail _))
      refine wpIn_mono (hround l k x W (blk l (.loop (rec .ready none)) :: blk D (.deferred (some [])) :: M) hx hent.cons.cons h0) ?_
      intro e₁ a₁ W1 he₁
      cases e₁ with
      | exit id => exact he₁
      | goto t => exact he₁
      | ret => exact he₁
      | panic ch => exact he₁
      | outgrown => exact he₁
      | normal =>
      obtain ⟨I', hI', hbody⟩ := he₁
      have h2 : Sat w0 W1 (blk l (.loop (rec .ready none)) :: blk D (.deferred (some [])) :: I' :: M) := hI'.pick (.cons (.there _ _ _ (.here _)) (.cons (.there _ _ _ (.here _)) (.tail _)))
      refine ⟨_, run_beginRound (h2.get (.here _)) hrl.2.2.2.2, ?_⟩
      have h3 := h2.putObj (.loop { rec .ready none with state := .busy })
      rw [show ({ rec .ready none with state := .busy } : Loop) = rec .busy none from by rw [hrec]] at h3 ⊢
      refine wpIn_mono (hbody _ (blk l (.loop (rec .busy none)) :: blk D (.deferred (some [])) :: M) hent.cons.cons (h3.pick (.cons (.there _ _ _ (.there _ _ _ (.here _))) (.tail _)))) ?_
      intro e a' w' he
      have fin : ∀ c, Sat w0 w' (S c k :: blk l (.loop (rec .busy none)) :: blk D (.deferred (some [])) :: M) → ∃ v w2, (Instr.endRound l (some c)).run P w' = .ok v w2 ∧
          ((Ending.returned v = .returned (.bool true) ∧ Sat w0 w2 (SatH [blk l (.loop (rec .ready none)), blk D (.deferred (some [])), I (k + 1)] :: M)) ∨
            (Ending.returned v = .returned (.bool false) ∧ Sat w0 w2 ((fun h => ∃ c, SatH [blk l (.loop (rec .done (some c))), blk D (.deferred (some [])), S c k] h) :: M))) := by
        intro c hc
        have h3 : Sat w0 w' (blk l (.loop (rec .busy none)) :: blk D (.deferred (some [])) :: S c k :: M) := hc.pick (.cons (.there _ _ _ (.here _)) (.cons (.there _ _ _ (.here _)) (.tail _)))
        refine ⟨_, _, run_endRound (some c) (h3.get (.here _)), .inr ⟨rfl, ?_⟩⟩
        have h4 := h3.putObj (.loop (rec .done (some c)))
        have h5 : Sat w0 _ (SatH [blk l (.loop (rec .done (some c))), blk D (.deferred (some [])), S c k] :: M) := Sat.join (M := [_, _, _]) h4
        have h6 := h5.to_head (q := fun h => ∃ c, SatH [blk l (.loop (rec .done (some c))), blk D (.deferred (some [])), S c k] h) (fun _ hb => ⟨c, hb⟩)
        rw [hrec] at h6 ⊢
        exact h6
      cases e with
      | normal =>
        have h3 : Sat w0 w' (blk l (.loop (rec .busy none)) :: blk D (.deferred (some [])) :: I (k + 1) :: M) := Sat.pick he (.cons (.there _ _ _ (.here _)) (.cons (.there _ _ _ (.here _)) (.tail _)))
        refine ⟨_, _, run_endRound none (h3.get (.here _)), .inl ⟨rfl, ?_⟩⟩
        have h4 := h3.putObj (.loop (rec .ready none))
        have h5 := hj _ _ _ h4
        rw [hrec] at h5 ⊢
        exact h5
      | ret => exact fin _ he
      | exit id => exact fin _ he
      | goto t => exact fin _ he
      | panic ch => exact he.elim
      | outgrown => exact he.elim
    refine CallsIn.mono (hseq l _ _ L W1 hY (Ent.refl L) (hj 0 W1 (T :: L) hs1)) ?_
    rintro e w' ⟨⟨v, rfl⟩, h | ⟨k, hk, h⟩⟩
    · have h1 : Sat w0 w' ([blk l (.loop (rec .ready none)), blk D (.deferred (some [])), I xs.length] ++ L) := h.split
      simp only [List.cons_append, List.nil_append] at h1
      refine ⟨_, _, run_endLoop (h1.get (.here _)) (by rw [hrec]; simp), ?_⟩
      rw [show (rec .ready none).pending = none from by rw [hrec]]
      exact hdone D _ (h1.putObj _).tail
    · obtain ⟨c, h⟩ := h.ex
      have h1 : Sat w0 w' ([blk l (.loop (rec .done (some c))), blk D (.deferred (some [])), S c k] ++ L) := h.split
      simp only [List.cons_append, List.nil_append] at h1
      refine ⟨_, _, run_endLoop (h1.get (.here _)) (by rw [hrec]; simp), ?_⟩
      rw [show (rec .done (some c)).pending = some c from by rw [hrec]]
      exact wpIn_wide.2 (hstop D _ c k hk (h1.putObj _).tail)

/-- At the return of a function whose body held a range over a function. -/
theorem leave_mark {fn : Func} {tmps : Array Value} {R : Ending → World → Prop} {D : Nat} {w : World} {v : Value} {L : List HP} (hs : Sat w0 w (blk D (.deferred (some [])) :: L)) (hr : ∀ w, (results fn tmps).run P w = .ok v w)
    (hR : ∀ w', Sat w0 w' L → R (.returned v) w') : bodyPostM Fence.wide 0 P fn R .ret { tmps, defers := [{ target := .collected D, args := #[] }] } w :=
  ⟨by simp, .inl ⟨D, _, rfl, run_takeDeferred (hs.get (.here _)), v, hr _, hR _ (hs.putObj _).tail⟩⟩

/-- .. and where it had not yet come to it. -/
theorem leave_plain {fn : Func} {tmps : Array Value} {R : Ending → World → Prop} {w : World} {v : Value} (hr : (results fn tmps).run P w = .ok v w) (hR : R (.returned v) w) : bodyPostM Fence.wide 0 P fn R .ret { tmps, defers := [] } w :=
  ⟨v, hr, hR⟩

theorem calls_of_marks {f : FuncId} {fn : Func} {c : Code} {args : Array Value} {w : World} {R : Ending → World → Prop} (hf : P.funcs[f]? = some fn) (hb : fn.body = some c)
    (h : c.wp P (bodyPostM Fence.wide 0 P fn R) { tmps := args ++ Array.replicate (fn.ntmps - args.size) undef, defers := [] } w) : Calls P f args w R :=
  callsIn_wide.1 (callsIn_of_wp_marks hf hb trivial (wpIn_wide.2 h))

#print axioms wl_rangeFunc
end
end Sl

/-
  The rules of SlOps and SlOps2 inside a fence (for a round's body, for an iterator): the same texts, turned by a program.
-/
namespace Sl
open Go Go.RowKit

class AllFn (F : Fence) : Prop where
  h : ∀ f, F.fn f

instance : AllFn Fence.wide := ⟨fun _ => trivial⟩
instance (l : Nat) : AllFn (Fence.wide.inRound l) := ⟨fun _ => trivial⟩

section
variable {F : Fence} [hF : AllFn F] {N : Nat} {P : Program} {ops : Array Oper} {Q : Exit → Act → World → Prop} {rest : List Oper} {a : Act} {w0 w : World} {L M : List HP}
variable {dst : Option Tmp} {ty : TypeId} {pos : String} {aft : Array Edge}

theorem wi_do {o : Oper} (hg : o.guard = none) {v : Value} {w' : World} (hr : (execOp a.eval o).run P w = .ok (.value v) w') (h : wpListIn F N P ops Q rest (a.put o.dst v) w') (hnd : ∀ c, o.op ≠ .defer c := by intro c h; cases h) : wpListIn F N P ops Q (o :: rest) a w :=
  wpListIn_plain hg fun K hK => ⟨fun f _ => hF.h f, by rw [Oper.semAt_plain F _ _ hnd, hr]; exact hK _ _ h⟩

theorem wi_do_skip {o : Oper} (hg : o.guard = none) {w' : World} (hr : (execOp a.eval o).run P w = .ok .skip w') (h : wpListIn F N P ops Q rest (a.put o.dst undef) w') (hnd : ∀ c, o.op ≠ .defer c := by intro c h; cases h) : wpListIn F N P ops Q (o :: rest) a w :=
  wpListIn_plain hg fun K hK => ⟨fun f _ => hF.h f, by rw [Oper.semAt_plain F _ _ hnd, hr]; exact hK _ _ h⟩

/-- A load of one cell. -/
theorem wi_load {T : TypeId} {x : Operand} {ad : Addr} {v : Value} [hT : Scal P T] (hs : Sat w0 w L) (hx : a.eval x = .pointer (some ad)) (hc : Cl w0 L ad v)
    (h : wpListIn F N P ops Q rest (a.put dst v) w) : wpListIn F N P ops Q (⟨dst, .load T x, ty, pos, aft, none⟩ :: rest) a w := by
  obtain ⟨d, h1, h2⟩ := hT.h
  refine wi_do rfl (v := v) (w' := w) ?_ h
  have hagg : (isAgg T).run P w = .ok false w := by
    unfold isAgg
    rw [Sem.run_bind, run_underlying h1 w]
    cases d <;> simp_all
  simp [execOp, hx, Instr.loadAt, Instr.sureAddr, loadVar, hagg, load, Sem.run, hc w hs]

/-- A store into a block. -/
theorem wi_store {T : TypeId} {x y : Operand} {b off n : Nat} {cur : Array Value} {E : TypeId} {v z : Value} {by_ : Nat} {L' : List HP} [hi : Inf P T z n by_] (hs : Sat w0 w L) (hx : a.eval x = .pointer (some ⟨b, off, none⟩)) (hy : a.eval y = v)
    (ho : Out (blk b (.cells cur E (0, 0))) L L') (hn : v.cells.size = n) (h1 : ∀ u ∈ v.cells.toList, u.oneCell' = true) (hfit : off + n ≤ cur.size)
    (h : ∀ w1, Sat w0 w1 (blk b (.cells (upd cur off v.cells.toList) E (0, 0)) :: L') → wpListIn F N P ops Q rest (a.put dst undef) w1) : wpListIn F N P ops Q (⟨dst, .store T x y, ty, pos, aft, none⟩ :: rest) a w := by
  have hg := hs.get ho
  refine wi_do_skip rfl ?_ (h _ ((hs.out ho).setRow (.here _)))
  simp only [execOp, hx, hy, Sem.run_bind, run_store_row (P := P) (T := T) hg hn h1 hfit, Result.andThen_ok, Sem.run_pure]

/-- A store of one cell. -/
theorem wi_store1 {T : TypeId} {x y : Operand} {b off : Nat} {cur : Array Value} {E : TypeId} {v z : Value} {by_ : Nat} {L' : List HP} [hi : Inf P T z 1 by_] (hs : Sat w0 w L) (hx : a.eval x = .pointer (some ⟨b, off, none⟩)) (hy : a.eval y = v)
    (ho : Out (blk b (.cells cur E (0, 0))) L L') (hn : v.cells = #[v]) (h1 : v.oneCell' = true) (hfit : off < cur.size)
    (h : ∀ w1, Sat w0 w1 (blk b (.cells (cur.setIfInBounds off v) E (0, 0)) :: L') → wpListIn F N P ops Q rest (a.put dst undef) w1) : wpListIn F N P ops Q (⟨dst, .store T x y, ty, pos, aft, none⟩ :: rest) a w := by
  have e : upd cur off v.cells.toList = cur.setIfInBounds off v := by
    rw [hn]; apply Array.ext'; simp [upd, List.set_eq_take_append_cons_drop]; intro h; omega
  exact wi_store hs hx hy ho (by rw [hn]; rfl) (by rw [hn]; simpa using h1) hfit (by rw [e]; exact h)

/-- A call of yield. -/
theorem wi_yield {f : Operand} {args : Array Operand} {tys : Array TypeId} {l : Nat} {x : Array Value} {R : Ending → World → Prop} (hf : a.eval f = .func (.yield l) #[] #[]) (hx' : args.toList.map a.eval = x.toList) (hy : YieldAt Fence.wide 0 P l x w R)
    (h : ∀ v w', R (.returned v) w' → wpListIn Fence.wide 0 P ops Q rest (a.put dst v) w') (hp : ∀ e w', R e w' → ∃ v, e = .returned v) :
    wpListIn Fence.wide 0 P ops Q (⟨dst, .call { callee := .value f, args := args, argTypes := tys }, ty, pos, aft, none⟩ :: rest) a w := by
  have hx : args.map a.eval = x := by apply Array.ext'; rw [Array.toList_map]; exact hx'
  obtain ⟨fn, tmps, assign, body, hrun, hR⟩ := hy
  refine wpListIn_plain rfl fun K hK => ⟨fun _ _ => trivial, ?_⟩
  have hs : (Oper.semAt Fence.wide.round a.eval ⟨dst, .call { callee := .value f, args := args, argTypes := tys }, ty, pos, aft, none⟩).run P w = .ok (.round l fn tmps assign body) w := by
    simp only [show Fence.wide.round = none from rfl, Oper.semAt_none, execOp, resolve, hf, hx, Deferred.ofValue, Sem.run_bind, Sem.run_pure, Result.andThen_ok, invoke, Array.empty_append, hrun]
  rw [hs]
  refine ⟨fun h => (by cases h), RoundIn.mono hR ?_⟩
  intro e w' hr
  obtain ⟨v, rfl⟩ := hp e w' hr
  exact hK _ _ (h v w' hr)
end
#print axioms wi_yield
end Sl

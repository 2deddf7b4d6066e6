/-
  'sl_region S (keep) (loads) (arms)': a region that draws its order, walked under a condition S on the world. What an operation that is not wanted leaves behind is taken at once;
  what an operation yields in every world that meets S is taken first ('loads' says what a load or a conversion yields, else the kit's 'go_simp'); what is left (calls, stores, new memory) is met by 'arms'.
-/
import Derived.Test.YtaenimnjaekmmaaSlOpsSt
namespace Sl
open Go Go.RowKit Lean Elab Tactic Meta

section
variable {P : Program} {a : Act} {w0 w : World} {L : List HP}
variable {dst : Option Tmp} {ty : TypeId} {pos : String} {aft : Array Edge} {gd : Option (Nat × Bool)}

/-- What a load yields. -/
theorem yl_load {T : TypeId} {x : Operand} {ad : Addr} {v : Value} [hT : Scal P T] (hs : Sat w0 w L) (hx : a.eval x = .pointer (some ad)) (hc : Cl w0 L ad v) :
    (execOp a.eval ⟨dst, .load T x, ty, pos, aft, gd⟩).run P w = .ok (.value v) w := by
  obtain ⟨d, h1, h2⟩ := hT.h
  have hagg : (isAgg T).run P w = .ok false w := by
    unfold isAgg
    rw [Sem.run_bind, run_underlying h1 w]
    cases d <;> simp_all
  simp [execOp, hx, Instr.loadAt, Instr.sureAddr, loadVar, hagg, load, Sem.run, hc w hs]

/-- What the conversion of bytes to a string yields. -/
theorem yl_b2s {S D E : TypeId} [hS : SlT P S E] [hE : U8T P E] [hD : StrT P D] {x : Operand} {A : Option Addr} {n c : Nat} {l : List UInt8} (hs : Sat w0 w L) (hx : a.eval x = .slice A n c) (hr : Rd w0 L A n 1 (B8 l)) :
    (execOp a.eval ⟨dst, .convert S D x, ty, pos, aft, gd⟩).run P w = .ok (.value (.string ⟨l.toArray⟩)) w := by
  simp only [execOp, hx, conv_b2s hr hs, Sem.run_bind, Result.andThen_ok, Sem.run_pure]

theorem if_wanted {c : Bool} {p q : Prop} (h : c = true) (hp : p) : if c = true then p else q := by rw [if_pos h]; exact hp
end

/-- Runs a tactic on one goal alone; what it leaves. -/
def onGoal (g : MVarId) (t : TacticM Unit) : TacticM (List MVarId) := do
  setGoals [g]
  t
  getUnsolvedGoals

partial def slWalk (keep loads arms : TSyntax `tactic) : TacticM Unit := withMainContext do
  let t := (← instantiateMVars (← getMainTarget)).consumeMData
  unless t.isAppOfArity ``wpAnyH 9 do throwError "sl_region: no 'wpAnyH':\n{t}"
  let args := t.getAppArgs
  let md := args[1]!
  let ops := args[2]!
  let listed := args[6]!
  let ready ← kernelNats (mkApp3 (mkConst ``Region.ready) md ops listed)
  if ready.isEmpty then
    evalTactic (← `(tactic| refine wpAnyH_done (by kernel_rfl) ?_ _))
    return
  let mut words : Array MessageData := #[]
  for i in ready do
    let some oe := opAt ops i | throwError "sl_region: the region is not written out"
    unless ← kernelBool (mkApp4 (mkConst ``Region.free) md ops listed (mkNatLit i)) do continue
    let oStx ← Term.exprToSyntax oe
    -- not wanted
    if !((oe.getArg! 5).consumeMData.isAppOf ``Option.none) then
      let s ← saveState
      let took ← try
        Tactic.withoutRecover do
          evalTactic (← `(tactic| refine wpAnyH_take (i := $(quote i)) (oi := $oStx) (v := undef) rfl (by kernel_rfl) (by kernel_rfl) (by kernel_rfl) (fun _ _ _ h => h) (Or.inr ⟨?_, rfl⟩) (by assumption) ?_))
          let [hw, rest] ← getUnsolvedGoals | throwError "two goals"
          let l ← onGoal hw (do evalTactic (← `(tactic| with_unfolding_all rfl)))
          unless l.isEmpty do throwError "not closed"
          setGoals [rest]
          evalTactic (← `(tactic| try simp only [Act.put, List.setIfInBounds_toArray, List.set_cons_zero, List.set_cons_succ]))
          pure true
      catch _ => s.restore; pure false
      if took then
        slWalk keep loads arms
        return
    let head := opHead ops i
    let quiet := (match head with | some n => worldless.contains n || n == ``Op.load | none => false) || takenFirstToo ops i
    unless quiet do continue
    let s ← saveState
    let took ← try
      Tactic.withoutRecover do
        evalTactic (← `(tactic| refine wpAnyH_take (i := $(quote i)) (oi := $oStx) (v := ?_) rfl (by kernel_rfl) (by kernel_rfl) (by kernel_rfl) (fun _ _ _ h => h) (Or.inl ⟨?_, ?_⟩) (by assumption) ?_))
        let gs ← getUnsolvedGoals
        let [_, hw, hy, rest] := gs | throwError "four goals expected: {gs.length}"
        let l ← onGoal hw (do evalTactic (← `(tactic| rfl)))
        unless l.isEmpty do throwError "wanted?"
        setGoals [hy]
        evalTactic (← `(tactic| (intro w hSw; (try dsimp only at hSw); first | ($loads:tactic) | (go_simp; done) | (go_simp; with_reducible rfl))))
        unless (← getUnsolvedGoals).isEmpty do throwError "not closed"
        setGoals [rest]
        evalTactic (← `(tactic| try simp only [Act.put, List.setIfInBounds_toArray, List.set_cons_zero, List.set_cons_succ]))
        pure true
    catch e =>
      s.restore
      words := words.push m!"· number {i} was not taken: {e.toMessageData}"
      pure false
    if took then
      slWalk keep loads arms
      return
  -- the others: whichever comes
  let lits : Array (TSyntax `term) := ready.toArray.map fun i => quote i
  evalTactic (← `(tactic| refine wpAnyH_ready (rs := [$lits,*]) (by kernel_rfl) (by simp) ?_))
  let mut done : List MVarId := []
  for i in ready do
    let some oe := opAt ops i | throwError "sl_region: the region is not written out"
    let oStx ← Term.exprToSyntax oe
    evalTactic (← `(tactic| refine AllReadyH.cons (o := $oStx) rfl (fun K hK => ?_) ?_))
    let [step, more] ← getUnsolvedGoals | throwError "sl_region: two goals expected"
    setGoals [step]
    let s ← saveState
    let ok ← try
      Tactic.withoutRecover do
        evalTactic (← `(tactic| (refine if_wanted (by rfl) ?_; ($arms:tactic))))
        unless (← getUnsolvedGoals).length == 1 do throwError "the arms have left {(← getUnsolvedGoals).length} goals"
        pure true
    catch e => s.restore; words := words.push m!"· number {i}, arms at 'Oper.wp': {e.toMessageData}"; pure false
    unless ok do
      setGoals [step]
      evalTactic (← `(tactic| go_simp))
      if (← instantiateMVars (← getMainTarget)).consumeMData.isAppOf ``Calls then
        let s ← saveState
        let ok ← try
          Tactic.withoutRecover do
            evalTactic arms
            pure true
        catch e => s.restore; words := words.push m!"· number {i}, arms at 'Calls': {e.toMessageData}"; pure false
        unless ok do throwError "sl_region: at the call number {i} no arm fits:{MessageData.joinSep words.toList "\n"}"
        unless (← getUnsolvedGoals).isEmpty || (← instantiateMVars (← getMainTarget)).consumeMData.getAppFn.isFVar do evalTactic (← `(tactic| go_wp2_with fail))
    unless (← getUnsolvedGoals).length == 1 do throwError "sl_region: number {i} has left {(← getUnsolvedGoals).length} goals"
    unless (← instantiateMVars (← getMainTarget)).consumeMData.getAppFn.isFVar do throwError "sl_region: number {i} has not run to its end:\n{← getMainTarget}\n{MessageData.joinSep words.toList "\n"}"
    evalTactic (← `(tactic| refine (Shut.out hK) _ _ ?_ (fun hHeld => ?_)))
    let [hS, rest] ← getUnsolvedGoals | throwError "sl_region: two goals expected behind the step"
    let l ← onGoal hS (do evalTactic (← `(tactic| ((try dsimp only); ($keep:tactic)))))
    unless l.isEmpty do throwError "sl_region: S is not shown anew behind number {i}"
    setGoals [rest]
    evalTactic (← `(tactic| clear hK K))
    evalTactic (← `(tactic| try simp only [Act.put, List.setIfInBounds_toArray, List.set_cons_zero, List.set_cons_succ]))
    clearOldHeld
    slWalk keep loads arms
    done := done ++ (← getUnsolvedGoals)
    setGoals [more]
  evalTactic (← `(tactic| exact AllReadyH.nil))
  setGoals done

elab "sl_region " S:term:max ppSpace "(" keep:tactic ")" ppSpace "(" loads:tactic ")" ppSpace "(" arms:tactic ")" : tactic => withMainContext do
  evalTactic (← `(tactic| refine wp_region_held_drew (S := $S) (by kernel_rfl) ?_ (fun hHeld => ?_)))
  let [hS, rest] ← getUnsolvedGoals | throwError "sl_region: two goals expected at the beginning"
  let l ← onGoal hS (do evalTactic (← `(tactic| ((try dsimp only); ($keep:tactic)))))
  unless l.isEmpty do throwError "sl_region: S is not shown at the beginning"
  setGoals [rest]
  slWalk keep loads arms
end Sl

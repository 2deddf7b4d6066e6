/-
  Messages as bytes, and back: the plain law. No Go program in it.
-/
import Derived.Test.YtcedbmcnjckajaaEnt3
namespace Go.Proofs.Ytcedbmcnjckajaa
open Go Go.RowKit Sl Go.Shelf

/-- A message. -/
structure Msg where
  kd : Int
  fr : Int
  dn : Int
  tm : Int
  na : Int
  nb : Int
  nc : Int
  nd : Int
  yes : Bool
  es : List Ent
  sv : List Int
  dt : List UInt8

def Msg.nums (m : Msg) : List Int := [m.kd, m.fr, m.dn, m.tm, m.na, m.nb, m.nc, m.nd]
def zeroMsg : Msg := ⟨0, 0, 0, 0, 0, 0, 0, 0, false, [], [], []⟩

/-- What must be so of its numbers. -/
def okNums (m : Msg) : Bool :=
  decide (1 ≤ m.kd ∧ m.kd ≤ 6 ∧ 0 ≤ m.fr ∧ m.fr < 16 ∧ 0 ≤ m.dn ∧ m.dn < 16 ∧ 1 ≤ m.tm ∧ m.tm < 1099511627776 ∧ 0 ≤ m.na ∧ m.na ≤ 1099511627776 ∧ 0 ≤ m.nb ∧ m.nb ≤ 1099511627776 ∧ 0 ≤ m.nc ∧ m.nc ≤ 1099511627776 ∧ 0 ≤ m.nd ∧ m.nd ≤ 1099511627776)

/-- What the program looks at first. -/
def rightP (m : Msg) : Bool :=
  okNums m && decide (m.es.length ≤ 8) && (decide (m.kd = 3) || decide (m.es.length = 0)) && decide (m.dt.length ≤ 65536) && (decide (m.kd = 5) || decide (m.sv.length + m.dt.length = 0))

/-- May it be? -/
def rightM (m : Msg) : Bool := rightP m && m.es.all rightE && (!decide (m.kd = 5) || okServers m.sv)

def text (l : List UInt8) : List UInt8 := num l.length ++ l
def catNums (l : List Int) : List UInt8 := (l.map fun n => num n.toNat).flatten
def catEnts (l : List Ent) : List UInt8 := (l.map fun x => text (entBytes x)).flatten
def yesBytes (b : Bool) : List UInt8 := num (if b then 1 else 0)
def msgTail (m : Msg) : List UInt8 := if m.kd = 3 then num m.es.length ++ catEnts m.es else if m.kd = 5 then text (srvBytes m.sv) ++ text m.dt else []
def msgBytes (m : Msg) : List UInt8 := catNums m.nums ++ yesBytes m.yes ++ msgTail m
def putMsg (m : Msg) : List UInt8 × Int := if rightM m then (msgBytes m, 0) else ([], 1)

/-- k entries in a row, each as bytes: what is got, the reader's error, what is left. -/
def rdEnts : Nat → Int → List UInt8 → List (Ent × Int) × Int × List UInt8
  | 0, e, l => ([], e, l)
  | k + 1, e, l => (getEntry (rdBytes e l).1 :: (rdEnts k (rdBytes e l).2.1 (rdBytes e l).2.2).1, (rdEnts k (rdBytes e l).2.1 (rdBytes e l).2.2).2)

theorem rdEnts_length (k : Nat) : ∀ e l, (rdEnts k e l).1.length = k := by
  induction k with
  | zero => intro e l; rfl
  | succ k ih => intro e l; simp [rdEnts, ih]

theorem rdEnts_succ (k : Nat) : ∀ e l, rdEnts (k + 1) e l = ((rdEnts k e l).1 ++ [getEntry (rdBytes (rdEnts k e l).2.1 (rdEnts k e l).2.2).1], (rdBytes (rdEnts k e l).2.1 (rdEnts k e l).2.2).2) := by
  induction k with
  | zero => intro e l; rfl
  | succ k ih =>
    intro e l
    have h := ih (rdBytes e l).2.1 (rdBytes e l).2.2
    show (getEntry (rdBytes e l).1 :: (rdEnts (k + 1) _ _).1, (rdEnts (k + 1) _ _).2) = _
    rw [h]
    rfl

/-- A message out of nine numbers. -/
def msgOf (l : List Int) : Msg := ⟨l.getD 0 0, l.getD 1 0, l.getD 2 0, l.getD 3 0, l.getD 4 0, l.getD 5 0, l.getD 6 0, l.getD 7 0, l.getD 8 0 == 1, [], [], []⟩
/-- What is read: the message; was all well with what it holds?; the reader's error; what is left. -/
def rdMsg (b : List UInt8) : Msg × Bool × Int × List UInt8 :=
  let x := rdMany 9 0 b
  let m := msgOf x.1
  let ok := decide (x.1.getD 8 0 ≤ 1)
  if m.kd = 3 then
    let n := rdNumber x.2.1 x.2.2
    let z := rdEnts (min n.1.toNat 9) n.2.1 n.2.2
    ({ m with es := z.1.map (·.1) }, ok && z.1.all (fun y => y.2 == 0), z.2)
  else if m.kd = 5 then
    let s := rdBytes x.2.1 x.2.2
    let d := rdBytes s.2.1 s.2.2
    ({ m with sv := (getServers s.1).1, dt := d.1 }, ok && ((getServers s.1).2 == 0), d.2)
  else (m, ok, x.2)

def getMsg (b : List UInt8) : Msg × Int :=
  if (rdMsg b).2.1 = true ∧ rdEnd (rdMsg b).2.2.1 (rdMsg b).2.2.2 = 0 ∧ rightM (rdMsg b).1 = true then ((rdMsg b).1, 0) else (zeroMsg, 21)

/-! ### What is put is read -/
theorem text_len {l : List UInt8} (h : l.length ≤ 1048576) : (text l).length ≤ l.length + 7 := by
  have := num_len6 l.length (by omega)
  simp only [text, List.length_append]; omega

theorem rdBytes_of (t : List UInt8) (ht : t.length ≤ 1048576) (rest : List UInt8) : rdBytes 0 (text t ++ rest) = (t, 0, rest) := rdBytes_text t ht rest

theorem entBytes_len {x : Ent} (h : rightE x = true) : (entBytes x).length ≤ 4200 := by
  obtain ⟨h1, h2, h3, h4, h5, h6, hl⟩ := rightE_iff h
  have l1 := num_len6 x.t.toNat (by omega)
  have l2 := num_len6 x.i.toNat (by omega)
  have l3 := num_len6 x.k.toNat (by omega)
  have l4 := num_len6 x.d.length (by omega)
  simp only [entBytes, List.length_append]; omega

theorem rdEnts_cat (l : List Ent) (h : l.all rightE = true) (rest : List UInt8) : rdEnts l.length 0 (catEnts l ++ rest) = (l.map fun x => (x, 0), 0, rest) := by
  induction l with
  | nil => rfl
  | cons x l ih =>
    simp only [List.all_cons, Bool.and_eq_true] at h
    have hb := rdBytes_of (entBytes x) (by have := entBytes_len h.1; omega) (catEnts l ++ rest)
    have he : catEnts (x :: l) ++ rest = text (entBytes x) ++ (catEnts l ++ rest) := by simp [catEnts]
    rw [he, List.length_cons]
    unfold rdEnts
    rw [hb]
    simp only [ih h.2, getEntry_put h.1, List.map_cons]

theorem srvBytes_len {l : List Int} (h : okServers l = true) : (srvBytes l).length ≤ 64 := putServers_len_le (xs := l) (by unfold putServers; rw [if_pos h])
theorem getServers_put {l : List Int} (h : okServers l = true) : getServers (srvBytes l) = (l, 0) := by
  obtain ⟨⟨h1, h7⟩, hr⟩ := (okServers_iff l).1 h
  have hb := rise_bounds (by omega) hr
  have e1 := rdNumber_num l.length (by omega) ((l.map fun n => num n.toNat).flatten)
  have e2 := rdMany_nums l (fun x hx => by have := hb x hx; omega) []
  rw [List.append_nil] at e2
  unfold getServers
  rw [show srvBytes l = num l.length ++ (l.map fun n => num n.toNat).flatten from rfl, e1]
  simp only [Int.toNat_natCast]
  rw [Nat.min_eq_left h7, e2]
  rw [if_pos ⟨h, rfl⟩]

theorem rightP_iff {m : Msg} : rightP m = true ↔ okNums m = true ∧ m.es.length ≤ 8 ∧ (m.kd = 3 ∨ m.es.length = 0) ∧ m.dt.length ≤ 65536 ∧ (m.kd = 5 ∨ m.sv.length + m.dt.length = 0) := by
  simp only [rightP, Bool.and_eq_true, Bool.or_eq_true, decide_eq_true_eq]
  constructor
  · rintro ⟨⟨⟨⟨a, b⟩, c⟩, d⟩, e⟩; exact ⟨a, b, c, d, e⟩
  · rintro ⟨a, b, c, d, e⟩; exact ⟨⟨⟨⟨a, b⟩, c⟩, d⟩, e⟩

theorem rightM_iff {m : Msg} : rightM m = true ↔ rightP m = true ∧ m.es.all rightE = true ∧ (m.kd = 5 → okServers m.sv = true) := by
  simp only [rightM, Bool.and_eq_true, Bool.or_eq_true, Bool.not_eq_true', decide_eq_false_iff_not]
  constructor
  · rintro ⟨⟨a, b⟩, c⟩; exact ⟨a, b, fun h => c.resolve_left (fun n => n h)⟩
  · rintro ⟨a, b, c⟩; exact ⟨⟨a, b⟩, by by_cases h : m.kd = 5; exact .inr (c h); exact .inl h⟩

theorem yes_false : yesBytes false = [0] := by simp [yesBytes, num, le_zero]

theorem yes_true : yesBytes true = [1, 1] := by simp [yesBytes, num, le_pos, le_zero]

theorem yes_num (b : Bool) : yesBytes b = num (((if b then 1 else 0 : Int)).toNat) := by cases b <;> rfl

theorem rdMsg_put {m : Msg} (h : rightM m = true) (rest : List UInt8) : rdMsg (msgBytes m ++ rest) = (m, true, 0, rest) := by
  obtain ⟨hP, hE, hS⟩ := rightM_iff.1 h
  obtain ⟨hN, h8, h3, hD, h5⟩ := rightP_iff.1 hP
  have hn := of_decide_eq_true hN
  have hl : (m.nums ++ [if m.yes then 1 else 0]).length = 9 := rfl
  have hx := rdMany_nums (m.nums ++ [if m.yes then 1 else 0]) (by
    intro x hx
    simp only [Msg.nums, List.cons_append, List.nil_append, List.mem_cons, List.not_mem_nil, or_false] at hx
    rcases hx with rfl | rfl | rfl | rfl | rfl | rfl | rfl | rfl | rfl
    all_goals first | omega | (split <;> omega)) (msgTail m ++ rest)
  rw [hl] at hx
  have hb : msgBytes m ++ rest = ((m.nums ++ [if m.yes then 1 else 0]).map fun (n : Int) => num n.toNat).flatten ++ (msgTail m ++ rest) := by
    simp only [msgBytes, catNums, yes_num, List.map_append, List.flatten_append, List.map_cons, List.map_nil, List.flatten_cons, List.flatten_nil, List.append_nil, List.append_assoc]
  obtain ⟨kd, fr, dn, tm, na, nb, nc, nd, yes, es, sv, dt⟩ := m
  have hyes : ((if yes then 1 else 0 : Int) == 1) = yes := by cases yes <;> rfl
  have hyes1 : (if yes then 1 else 0 : Int) ≤ 1 := by split <;> omega
  unfold rdMsg
  rw [hb, hx]
  simp only [Msg.nums, List.cons_append, List.nil_append, msgOf, List.getD_cons_zero, List.getD_cons_succ, hyes, hyes1, decide_true, Bool.true_and]
  simp only at hn h8 h3 hD h5 hE hS
  by_cases k3 : kd = 3
  · have e0 : sv = [] := List.eq_nil_of_length_eq_zero (by omega)
    have e1 : dt = [] := List.eq_nil_of_length_eq_zero (by omega)
    subst k3 e0 e1
    have en := rdNumber_num es.length (by omega) (catEnts es ++ rest)
    rw [if_pos rfl]
    simp only [msgTail, if_true, List.append_assoc, en, Int.toNat_natCast]
    rw [Nat.min_eq_left (by omega), rdEnts_cat es hE rest]
    simp [Function.comp_def]
  · rw [if_neg k3]
    have e0 : es = [] := List.eq_nil_of_length_eq_zero (by omega)
    subst e0
    by_cases k5 : kd = 5
    · rw [if_pos k5]
      simp only [msgTail, if_neg k3, if_pos k5, List.append_assoc]
      rw [rdBytes_of (srvBytes sv) (by have := srvBytes_len (hS k5); omega)]
      simp only [getServers_put (hS k5)]
      rw [rdBytes_of dt (by omega)]
      simp
    · have e1 : sv = [] := List.eq_nil_of_length_eq_zero (by omega)
      have e2 : dt = [] := List.eq_nil_of_length_eq_zero (by omega)
      subst e1 e2
      rw [if_neg k5]
      simp only [msgTail, if_neg k3, if_neg k5, List.nil_append]

theorem getMsg_put {m : Msg} (h : rightM m = true) : getMsg (msgBytes m) = (m, 0) := by
  have := rdMsg_put h []
  rw [List.append_nil] at this
  unfold getMsg
  rw [this]
  simp only
  rw [if_pos ⟨trivial, rfl, h⟩]

/-- Behind a message's bytes more: no message. -/
theorem getMsg_more {m : Msg} (h : rightM m = true) {rest : List UInt8} (hr : rest ≠ []) : getMsg (msgBytes m ++ rest) = (zeroMsg, 21) := by
  have := rdMsg_put h rest
  unfold getMsg
  rw [this]
  simp only
  rw [if_neg]
  rintro ⟨_, h2, _⟩
  exact hr (rdEnd_zero h2).2

/-! ### What is read is put the same -/
theorem rdEnts_inv (k : Nat) : ∀ {e : Int} {l r : List UInt8} {zs : List (Ent × Int)}, rdEnts k e l = (zs, 0, r) → zs.all (fun y => y.2 == 0) = true → e = 0 ∧ l = catEnts (zs.map (·.1)) ++ r ∧ (zs.map (·.1)).all rightE = true := by
  induction k with
  | zero =>
    intro e l r zs h _
    simp only [rdEnts, Prod.mk.injEq] at h
    obtain ⟨rfl, rfl, rfl⟩ := h
    exact ⟨rfl, rfl, rfl⟩
  | succ k ih =>
    intro e l r zs h hz
    obtain ⟨⟨y, e1, l1⟩, hy⟩ : ∃ x, rdBytes e l = x := ⟨_, rfl⟩
    obtain ⟨⟨ws, e2, l2⟩, hw⟩ : ∃ x, rdEnts k e1 l1 = x := ⟨_, rfl⟩
    unfold rdEnts at h
    simp only [hy, hw, Prod.mk.injEq] at h
    obtain ⟨rfl, rfl, rfl⟩ := h
    simp only [List.all_cons, Bool.and_eq_true, beq_iff_eq] at hz
    obtain ⟨rfl, g1, g2⟩ := ih hw hz.2
    obtain ⟨h0, g3⟩ := rdBytes_inv hy
    obtain ⟨q, hq⟩ : ∃ q, getEntry y = (q, 0) := ⟨(getEntry y).1, by rw [← hz.1]⟩
    obtain ⟨g4, g5⟩ := getEntry_back hq
    refine ⟨h0, ?_, ?_⟩
    · rw [g3, g1]
      simp only [List.map_cons, hq, catEnts, List.flatten_cons, text, ← g5, List.append_assoc]
    · simp only [List.map_cons, hq, List.all_cons, g4, Bool.true_and]; exact g2

theorem getMsg_back {b : List UInt8} {m : Msg} (h : getMsg b = (m, 0)) : rightM m = true ∧ b = msgBytes m := by
  unfold getMsg at h
  split at h
  · rename_i hc
    obtain ⟨hok, he, hr⟩ := hc
    simp only [Prod.mk.injEq, and_true] at h
    subst h
    refine ⟨hr, ?_⟩
    obtain ⟨⟨l9, e9, r9⟩, hx⟩ : ∃ x, rdMany 9 0 b = x := ⟨_, rfl⟩
    have hl : l9.length = 9 := by have := rdMany_length 9 0 b; rw [hx] at this; exact this
    match l9, hl with
    | [kd, fr, dn, tm, na, nb, nc, nd, ys], _ =>
    obtain ⟨hP, hE, hS⟩ := rightM_iff.1 hr
    obtain ⟨hN, h8, h3, hD, h5⟩ := rightP_iff.1 hP
    have hyes : ∀ r, rdMany 9 0 b = ([kd, fr, dn, tm, na, nb, nc, nd, ys], 0, r) → 0 ≤ ys := fun r hr => by
      have h1 := rdMany_succ 8 0 b
      rw [hr] at h1
      obtain ⟨⟨w8, f8, s8⟩, h8⟩ : ∃ x, rdMany 8 0 b = x := ⟨_, rfl⟩
      rw [h8] at h1
      obtain ⟨⟨v, g, s⟩, hv⟩ : ∃ x, rdNumber f8 s8 = x := ⟨_, rfl⟩
      simp only [hv, Prod.mk.injEq] at h1
      have h2 := congrArg (fun l => l.getLast?) h1.1
      simp at h2
      have := (rdNumber_ok hv).1
      omega
    have fin : ∀ (m : Msg) (r : List UInt8), e9 = 0 → m.nums = [kd, fr, dn, tm, na, nb, nc, nd] → m.yes = (ys == 1) → ys ≤ 1 → r9 = msgTail m → b = msgBytes m := fun m r h0 h1 h2 h4 h6 => by
      subst h0
      obtain ⟨_, g⟩ := rdMany_inv 9 hx
      have hy0 := hyes r9 hx
      rw [g, h6]
      unfold msgBytes catNums
      rw [h1, yes_num, h2]
      have : (if (ys == 1) = true then 1 else 0 : Int) = ys := by
        by_cases e : ys = 1
        · subst e; rfl
        · rw [if_neg (by simpa using e)]; omega
      rw [this]
      simp only [List.map_cons, List.map_nil, List.flatten_cons, List.flatten_nil, List.append_nil, List.append_assoc]
    unfold rdMsg at hok he hr hP hE hS h8 h3 hD h5 hN ⊢
    rw [hx] at hok he hr hP hE hS h8 h3 hD h5 hN ⊢
    simp only [msgOf, List.getD_cons_zero, List.getD_cons_succ] at hok he hr hP hE hS h8 h3 hD h5 hN ⊢
    by_cases k3 : kd = 3
    · rw [if_pos k3] at hok he hr hP hE hS h8 h3 hD h5 hN ⊢
      obtain ⟨⟨n, e1, r1⟩, hn⟩ : ∃ x, rdNumber e9 r9 = x := ⟨_, rfl⟩
      obtain ⟨⟨zs, e2, r2⟩, hz⟩ : ∃ x, rdEnts (min n.toNat 9) e1 r1 = x := ⟨_, rfl⟩
      simp only [hn, hz] at hok he hr hP hE hS h8 h3 hD h5 hN ⊢
      obtain ⟨rfl, rfl⟩ := rdEnd_zero he
      simp only [Bool.and_eq_true, decide_eq_true_eq] at hok
      obtain ⟨rfl, g1, g2⟩ := rdEnts_inv _ hz hok.2
      obtain ⟨rfl, n0, _, g3⟩ := rdNumber_inv hn
      have hzl : zs.length = min n.toNat 9 := by have := rdEnts_length (min n.toNat 9) 0 r1; rw [hz] at this; exact this
      refine fin _ [] rfl rfl rfl hok.1 ?_
      simp only [msgTail, if_pos k3, List.length_map]
      rw [g3, g1, List.append_nil]
      simp only [List.length_map] at h8
      rw [show n.toNat = zs.length from by omega]
    · rw [if_neg k3] at hok he hr hP hE hS h8 h3 hD h5 hN ⊢
      by_cases k5 : kd = 5
      · rw [if_pos k5] at hok he hr hP hE hS h8 h3 hD h5 hN ⊢
        obtain ⟨⟨s, e1, r1⟩, hs⟩ : ∃ x, rdBytes e9 r9 = x := ⟨_, rfl⟩
        obtain ⟨⟨d, e2, r2⟩, hd⟩ : ∃ x, rdBytes e1 r1 = x := ⟨_, rfl⟩
        obtain ⟨⟨sv, g⟩, hg⟩ : ∃ x, getServers s = x := ⟨_, rfl⟩
        simp only [hs, hd, hg] at hok he hr hP hE hS h8 h3 hD h5 hN ⊢
        obtain ⟨rfl, rfl⟩ := rdEnd_zero he
        simp only [Bool.and_eq_true, decide_eq_true_eq, beq_iff_eq] at hok
        obtain ⟨h1, rfl⟩ := hok
        obtain ⟨rfl, g1⟩ := rdBytes_inv hd
        obtain ⟨rfl, g2⟩ := rdBytes_inv hs
        have hps := getServers_back hg
        unfold putServers at hps
        rw [if_pos (hS k5)] at hps
        simp only [Prod.mk.injEq, and_true] at hps
        refine fin _ [] rfl rfl rfl h1 ?_
        simp only [msgTail, if_neg k3, if_pos k5, text]
        rw [hps, g2, g1]; simp
      · rw [if_neg k5] at hok he hr hP hE hS h8 h3 hD h5 hN ⊢
        simp only [decide_eq_true_eq] at hok
        obtain ⟨rfl, rfl⟩ := rdEnd_zero he
        refine fin _ [] rfl rfl rfl hok ?_
        simp only [msgTail, if_neg k3, if_neg k5]
  · simp at h

/-- A beginning of a message's bytes is none. -/
theorem getMsg_less {m : Msg} (h : rightM m = true) {k : Nat} (hk : k < (msgBytes m).length) : getMsg ((msgBytes m).take k) = (zeroMsg, 21) := by
  obtain ⟨⟨x, g⟩, hg⟩ : ∃ x, getMsg ((msgBytes m).take k) = x := ⟨_, rfl⟩
  by_cases h0 : g = 0
  · subst h0
    obtain ⟨hr, hb⟩ := getMsg_back hg
    have h1 := getMsg_more hr (rest := (msgBytes m).drop k) (by intro e; have := congrArg List.length e; simp at this; omega)
    rw [← hb, List.take_append_drop, getMsg_put h] at h1
    simp at h1
  · unfold getMsg at hg
    split at hg
    · simp only [Prod.mk.injEq] at hg; exact absurd hg.2.symm h0
    · unfold getMsg; rename_i hc; rw [if_neg hc]
end Go.Proofs.Ytcedbmcnjckajaa

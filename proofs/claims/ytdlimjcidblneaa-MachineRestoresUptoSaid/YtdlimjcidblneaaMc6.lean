/-
  The machine: a command at an index (plain), and what its walk wants: sessions that go, records that are cloned.
-/
import Derived.Test.YtdlimjcidblneaaMc5
import Derived.Deep.LoopGhost
namespace Go.Proofs.Ytdlimjcidblneaa
open Go Go.RowKit Sl Go.Shelf
set_option maxHeartbeats 20000000
set_option maxRecDepth 8000

def Mc.expire (M : Mc) (ix : Int) : Mc := { M with ap := ix, ss := M.ss.filter fun x => decide (ix - M.sp < x.2.t) }
def Mc.trimTo (M : Mc) (x : Int) : Int := min (max x M.st) (M.st + M.l.length)
def Mc.trim (M : Mc) (x : Int) : Mc := { M with st := M.trimTo x, l := M.l.drop (M.trimTo x - M.st).toNat }
def Mc.opened (M : Mc) (ix : Int) : Mc := { M with ss := M.ss ++ [(ix, ⟨0, 0, ix⟩)] }

/-- What is told: the result's error, session, number; the error. -/
structure Told where
  e : Int
  s : Int
  n : Int
  err : Int

def Mc.does (M : Mc) (ix : Int) (c : Cmd) : Told × Mc :=
  if c.k = 1 then (if 16 ≤ M.ss.length then (⟨40, 0, 0, 0⟩, M) else (⟨0, ix, 0, 0⟩, M.opened ix))
  else if c.k = 2 then (⟨(M.put c.x c.y c.d).1.1, 0, (M.put c.x c.y c.d).1.2, 0⟩, (M.put c.x c.y c.d).2)
  else if c.k = 3 then (⟨0, 0, M.trimTo c.x, 0⟩, M.trim c.x)
  else (⟨21, 0, 0, 0⟩, M)

def Mc.apply (M : Mc) (ix : Int) (b : List UInt8) : Told × Mc :=
  if ix ≤ M.ap then (⟨0, 0, 0, 35⟩, M)
  else if 1099511627776 ≤ ix then (⟨0, 0, 0, 11⟩, M)
  else (M.expire ix).does ix (cmd b)

/-! ### Sessions that go -/
def keepS (lim : Int) (x : SesRow) : Bool := decide (lim < x.2.2.t)
def cur_ (bs left : List SesRow) (lim : Int) : List SesRow := bs.filter fun x => (left.any fun y => decide (y.1 = x.1)) || keepS lim x

theorem cur_start (bs : List SesRow) (lim : Int) : cur_ bs bs lim = bs :=
  List.filter_eq_self.2 fun x hx => by rw [Bool.or_eq_true]; exact .inl (List.any_eq_true.2 ⟨x, hx, by simp⟩)
theorem cur_end (bs : List SesRow) (lim : Int) : cur_ bs [] lim = bs.filter (keepS lim) := by unfold cur_; simp

theorem seMap_del (l : List SesRow) (k : Int) : mdel (seMap l) k = seMap (l.filter fun y => decide (y.1 ≠ k)) := by
  unfold mdel seMap; rw [List.filter_map]; rfl

theorem row_one {bs : List SesRow} (hn : (bs.map (·.1)).Nodup) {x y : SesRow} (hx : x ∈ bs) (hy : y ∈ bs) (e : x.1 = y.1) : x = y := by
  obtain ⟨i, hi⟩ := List.mem_iff_getElem?.1 hx
  obtain ⟨j, hj⟩ := List.mem_iff_getElem?.1 hy
  have h1 : (bs.map (·.1))[i]? = some x.1 := by rw [List.getElem?_map, hi]; rfl
  have h2 : (bs.map (·.1))[j]? = some x.1 := by rw [List.getElem?_map, hj, e]; rfl
  have hij := (List.getElem?_inj (List.getElem?_eq_some_iff.1 h1).1 hn).1 (h1.trans h2.symm)
  subst hij
  rw [hi] at hj; cases hj; rfl

theorem cur_next {bs left : List SesRow} {lim : Int} {x : SesRow} (hn : (bs.map (·.1)).Nodup) (hs : left.Sublist bs) (hx : x ∈ left) :
    (keepS lim x = true → cur_ bs (left.filter fun y => decide (y.1 ≠ x.1)) lim = cur_ bs left lim) ∧
    (keepS lim x = false → cur_ bs (left.filter fun y => decide (y.1 ≠ x.1)) lim = (cur_ bs left lim).filter fun y => decide (y.1 ≠ x.1)) := by
  have ha : ∀ z : SesRow, ((left.filter fun y => decide (y.1 ≠ x.1)).any fun y => decide (y.1 = z.1)) = (left.any (fun y => decide (y.1 = z.1)) && decide (z.1 ≠ x.1)) := fun z => by
    rw [Bool.eq_iff_iff, List.any_eq_true, Bool.and_eq_true, List.any_eq_true]
    constructor
    · rintro ⟨y, hy, h⟩
      obtain ⟨h1, h2⟩ := List.mem_filter.1 hy
      simp only [decide_eq_true_eq] at h h2
      exact ⟨⟨y, h1, by simpa using h⟩, by simpa [← h] using h2⟩
    · rintro ⟨⟨y, hy, h⟩, h2⟩
      simp only [decide_eq_true_eq] at h h2
      exact ⟨y, List.mem_filter.2 ⟨hy, by simpa [h] using h2⟩, by simpa using h⟩
  constructor
  · intro hk
    refine List.filter_congr fun z hz => ?_
    rw [ha]
    by_cases e : z.1 = x.1
    · obtain rfl := row_one hn hz (hs.subset hx) e
      rw [hk]; simp
    · simp [e]
  · intro hk
    unfold cur_
    rw [List.filter_filter]
    refine List.filter_congr fun z hz => ?_
    rw [ha]
    by_cases e : z.1 = x.1
    · obtain rfl := row_one hn hz (hs.subset hx) e
      rw [hk]; simp
    · simp [e]

theorem left_next {bs left : List SesRow} {x : SesRow} {g : Nat} (hs : left.Sublist bs) (hx : x ∈ left) (hg : left.length ≤ g) :
    (left.filter fun y => decide (y.1 ≠ x.1)).length ≤ g - 1 ∧ (left.filter fun y => decide (y.1 ≠ x.1)).Sublist bs ∧ 0 < g := by
  have h1 : (left.filter fun y => decide (y.1 ≠ x.1)).length < left.length := by
    rw [List.length_filter_lt_length_iff_exists]
    exact ⟨x, hx, by simp⟩
  exact ⟨by omega, List.filter_sublist.trans hs, by omega⟩

theorem mem_seMap {l : List SesRow} {k : Int} {v : Value} (h : (k, v) ∈ seMap l) : ∃ b s, (k, b, s) ∈ l ∧ v = .pointer (some ⟨b, 0, none⟩) := by
  obtain ⟨⟨k', b, s⟩, hy, e⟩ := List.mem_map.1 h
  simp only [Prod.mk.injEq] at e
  obtain ⟨rfl, rfl⟩ := e
  exact ⟨b, s, hy, rfl⟩

theorem SatH.sub {M M' : List HP} (h : M'.Sublist M) : ∀ {x : Hl}, SatH M x → SatH M' x := by
  induction h with
  | slnil => exact fun H => H
  | cons a _ ih => exact fun H => ih H.tail
  | cons_cons a _ ih => exact fun H => SatH.cons_mono (fun _ => ih) H

theorem Sat.bag_sub {w0 w : World} {L M M' : List HP} (h : M'.Sublist M) (hs : Sat w0 w (SatH M :: L)) : Sat w0 w (SatH M' :: L) := hs.to_head fun _ H => SatH.sub h H

theorem Cl.se {w0 : World} {L : List HP} {bs : List SesRow} {k : Int} {b : Nat} {s : Se} (h : (k, b, s) ∈ bs) : Cl w0 (SatH (seBlks bs) :: L) ⟨b, 2, none⟩ (.int .i64 s.t) := by
  intro w hs
  obtain ⟨j, hj⟩ := List.mem_iff_getElem?.1 h
  have hj' : (seBlks bs)[j]? = some (blk b (.cells #[.int .i64 s.q, .int .i64 s.n, .int .i64 s.t] 81 (0, 0))) := by unfold seBlks; rw [List.getElem?_map, hj]; rfl
  exact (Cl.blk rfl) w (hs.bag_take hj')

theorem strip_keep (bs : List SesRow) (M : Mc) (ix : Int) (h : seStrip bs = M.ss) : seStrip (bs.filter (keepS (ix - M.sp))) = (M.expire ix).ss := by
  unfold Mc.expire
  simp only
  rw [← h]
  unfold seStrip
  rw [List.filter_map]
  rfl

theorem clone2_spec {w0 w : World} {L : List HP} {A : Option Addr} {n c : Nat} (vs : List Value) (hn : n ≤ 1099511627776) (h1 : ∀ u ∈ vs, u.oneCell' = true) (hs : Sat w0 w L) (hR : Rd w0 L A n 1 vs) :
    Calls Try.prog 40 #[.slice A n c] w (fun e w' => ∃ A' c', e = .returned (.slice A' n c') ∧ Sat w0 w' (own 33 1 A' c' n vs :: L)) := by
  cases A with
  | none =>
    obtain rfl : n = 0 := (hR w hs).nil rfl
    obtain rfl : vs = [] := List.eq_nil_of_length_eq_zero (by have := (hR w hs).len; simpa using this)
    have h1 := fun (w : World) => Lib.run_eql_slice_nil (P := Try.prog) w 53 33 none 0 c 0 0 Try.underlying53
    simp only [Option.isNone_none] at h1
    go_enter Try.func40, Try.ntmps40
    refine wk_seq (fun K0 hK0 => ?_); refine wk_reg ?_; refine pl_take (v := ?_) rfl ?_ ?_; rotate_left; (· (go_simp; first | done | with_reducible rfl | rfl | omega | assumption | (simp; omega))); (try simp only [Act.put, aP, aZ, aS]); refine pl_done ?_; refine hK0.out _ _ ?_; (try clear hK0 K0); refine wk_seq (fun K1 hK1 => ?_); refine wk_seq (fun K2 hK2 => ?_); refine wk_reg ?_; refine pl_take (v := ?_) rfl ?_ ?_; rotate_left; (· (go_simp; first | done | with_reducible rfl | rfl | omega | assumption | (simp; omega))); (try simp only [Act.put, aP, aZ, aS]); refine pl_take (v := .bool true) rfl ?_ ?_; (· (go_simp; first | done | with_reducible rfl | rfl | omega | assumption | (simp; omega))); (try simp only [Act.put, aP, aZ, aS]); refine pl_done ?_; refine hK2.out _ _ ?_; (try clear hK2 K2); refine wp_cond_true rfl ?_; refine wk_seq (fun K3 hK3 => ?_); refine wk_reg ?_; refine pl_take (v := ?_) rfl ?_ ?_; rotate_left; (· (go_simp; first | done | with_reducible rfl | rfl | omega | assumption | (simp; omega))); (try simp only [Act.put, aP, aZ, aS]); refine pl_done ?_; refine hK3.out _ _ ?_; (try clear hK3 K3); refine wp_ret ?_
    go_ret
    exact ⟨none, 0, rfl, ((by assumption : Sat w0 w L).own_nil 33 1).pick (by (repeat (first | exact Pick.nil _ | exact Pick.tail _ | exact Out.here _ | apply Out.there | apply Pick.cons | apply Pick.drop)))⟩
  | some a =>
    have h2 := fun (w : World) => Lib.run_eql_slice_nil (P := Try.prog) w 53 33 (some a) n c 0 0 Try.underlying53
    simp only [Option.isNone_some] at h2
    go_enter Try.func40, Try.ntmps40
    refine wk_seq (fun K0 hK0 => ?_); refine wk_reg ?_; refine pl_take (v := ?_) rfl ?_ ?_; rotate_left; (· (go_simp; first | done | with_reducible rfl | rfl | omega | assumption | (simp; omega))); (try simp only [Act.put, aP, aZ, aS]); refine pl_done ?_; refine hK0.out _ _ ?_; (try clear hK0 K0); refine wk_seq (fun K1 hK1 => ?_); refine wk_seq (fun K2 hK2 => ?_); refine wk_reg ?_; refine pl_take (v := ?_) rfl ?_ ?_; rotate_left; (· (go_simp; first | done | with_reducible rfl | rfl | omega | assumption | (simp; omega))); (try simp only [Act.put, aP, aZ, aS]); refine pl_take (v := .bool false) rfl ?_ ?_; (· (go_simp; first | done | with_reducible rfl | rfl | omega | assumption | (simp; omega))); (try simp only [Act.put, aP, aZ, aS]); refine pl_done ?_; refine hK2.out _ _ ?_; (try clear hK2 K2); refine wp_cond_false rfl ?_; refine wp_skip ?_; refine hK1.out _ _ ?_; (try clear hK1 K1); refine wk_seq (fun K4 hK4 => ?_); refine wk_reg ?_; refine pl_eff rfl (fun Kp hKp => ?_); ((with_reducible apply st_buildSlice); assumption; rfl; (go_simp; rfl); (simp [Value.cells]); omega; intro b5 w5 hs5); refine hKp.out _ _ ?_; clear hKp Kp; (try simp only [Act.put, aP, aZ, aS]); refine pl_take (v := ?_) rfl ?_ ?_; rotate_left; (· (go_simp; first | done | with_reducible rfl | rfl | omega | assumption | (simp; omega))); (try simp only [Act.put, aP, aZ, aS]); refine pl_eff rfl (fun Kp hKp => ?_); ((with_reducible apply st_append); assumption; rfl; rfl; (repeat (first | with_reducible exact Out.here _ | apply Out.there)); (repeat (first | with_reducible assumption | with_reducible exact Rd.own | with_reducible exact Rd.nil | with_reducible apply Rd.cons)); (simp only [maxLen]; omega); omega; intro A7 c7 w7 hs7 hc7; simp only [Nat.zero_add, List.nil_append] at hs7 hc7); refine hKp.out _ _ ?_; clear hKp Kp; (try simp only [Act.put, aP, aZ, aS]); refine pl_take (v := ?_) rfl ?_ ?_; rotate_left; (· (go_simp; first | done | with_reducible rfl | rfl | omega | assumption | (simp; omega))); (try simp only [Act.put, aP, aZ, aS]); refine pl_done ?_; refine hK4.out _ _ ?_; (try clear hK4 K4); refine wp_ret ?_
    go_ret
    exact ⟨A7, c7, by simp, (by assumption : Sat w0 _ _).pick (by (repeat (first | exact Pick.nil _ | exact Pick.tail _ | exact Out.here _ | apply Out.there | apply Pick.cons | apply Pick.drop)))⟩
end Go.Proofs.Ytdlimjcidblneaa

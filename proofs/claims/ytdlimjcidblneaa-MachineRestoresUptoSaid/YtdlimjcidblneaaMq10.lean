/-
  A machine of the program beside one of the document.
-/
import Derived.Test.YtdlimjcidblneaaMq9
namespace Go.Proofs.Ytdlimjcidblneaa
open Go Go.RowKit Sl Go.Shelf Go.Deep
set_option maxHeartbeats 20000000
set_option maxRecDepth 8000


/-- A machine of the program, one of the document, behind at most i commands. -/
structure Tw (i : Nat) (M N : Mc) : Prop where
  eqv : M.Eqv N
  gm : M.Good
  gn : N.Good
  srt : (N.ss.map (·.1)).Pairwise (· < ·)
  len : M.l.length ≤ i

theorem put_keys (M : Mc) (id q : Int) (d : List UInt8) : (M.put id q d).2.ss.map (·.1) = M.ss.map (·.1) := by
  unfold Mc.put
  split
  · rfl
  · split
    · exact setSe_keys _ _ _
    · split
      · exact setSe_keys _ _ _
      · exact setSe_keys _ _ _

theorem apply_sorted {N : Mc} (ix : Int) (b : List UInt8) (h : N.Ok) (hs : (N.ss.map (·.1)).Pairwise (· < ·)) : ((N.apply ix b).2.ss.map (·.1)).Pairwise (· < ·) := by
  unfold Mc.apply
  split
  · exact hs
  · split
    · exact hs
    · have he : ((N.expire ix).ss.map (·.1)).Pairwise (· < ·) := hs.sublist (List.Sublist.map _ List.filter_sublist)
      have hids : ∀ x ∈ (N.expire ix).ss, x.1 < ix := fun x hx => by have := h.ids x (List.mem_filter.1 hx).1; omega
      obtain ⟨M1, hM1⟩ : ∃ M1, N.expire ix = M1 := ⟨_, rfl⟩
      rw [hM1] at he hids ⊢
      unfold Mc.does
      split
      · split
        · exact he
        · simp only [Mc.opened, List.map_append, List.map_cons, List.map_nil]
          refine List.pairwise_append.2 ⟨he, List.pairwise_singleton _ _, fun a ha c hc => ?_⟩
          simp only [List.mem_singleton] at hc
          obtain ⟨y, hy, rfl⟩ := List.mem_map.1 ha
          rw [hc]; exact hids y hy
      · split
        · simp only; rw [put_keys]; exact he
        · split
          · exact he
          · exact he

theorem Tw.start {sp : Int} (h : 1 ≤ sp ∧ sp ≤ 1099511627776) : Tw 0 (Mc.new sp) (Mc.new sp) := ⟨.refl _, Mc.Good.new h, Mc.Good.new h, by simp [Mc.new], by simp [Mc.new]⟩
theorem Tw.step {i : Nat} {M N : Mc} (h : Tw i M N) (ix : Int) (b : List UInt8) : Tw (i + 1) (M.apply ix b).2 (N.apply ix b).2 :=
  ⟨(apply_eqv h.eqv h.gm.nod ix b).2, apply_good h.gm, apply_good h.gn, apply_sorted ix b h.gn.ok h.srt, by have := (apply_ok (ix := ix) (b := b) h.gm.ok).2; have := h.len; omega⟩
theorem Tw.up {i j : Nat} {M N : Mc} (h : Tw i M N) (hij : i ≤ j) : Tw j M N := ⟨h.eqv, h.gm, h.gn, h.srt, Nat.le_trans h.len hij⟩

theorem stepTw {w0 w : World} {L : List HP} {p q i : Nat} {M N : Mc} {B : Option Addr} {c : Nat} (o : OpD) (ht : Tw i M N) (hi : i ≤ 4000000) (hb : o.b.length ≤ 1048576)
    (hs : Sat w0 w (MR p M :: RM q N :: L)) (hR : Rd w0 L B o.b.length 1 (B8 o.b)) :
    Calls Try.prog 33 #[.pointer (some ⟨p, 0, none⟩), .pointer (some ⟨q, 0, none⟩), .agg #[.int .i64 o.ix, .slice B o.b.length c, .int .i64 o.fr, .int .i64 o.mo]] w
      (fun e w' => e = .returned (.bool true) ∧ Sat w0 w' (MR p (M.apply o.ix o.b).2 :: RM q (N.apply o.ix o.b).2 :: L)) :=
  step08_spec o ht.eqv ht.gm ht.gn (by have := ht.len; omega) hb hs hR

theorem sameTw {w0 w : World} {L : List HP} {p q i : Nat} {M N : Mc} (ht : Tw i M N) (hi : i ≤ 4000000) (hs : Sat w0 w (MR p M :: RM q N :: L)) :
    Calls Try.prog 34 #[.pointer (some ⟨p, 0, none⟩), .pointer (some ⟨q, 0, none⟩)] w (RetB w0 (MR p M :: RM q N :: L) true) :=
  same08_spec ht.eqv ht.gm ht.gn ht.srt (by have := ht.len; omega) hs

/-- The row of an operation reads. -/
theorem op_row {w0 : World} {L : List HP} {ga oa n i : Nat} {xs : List OpD} {vs : List Value} (hn : n = xs.length) (hRv : Rd w0 L (some ⟨ga, oa, none⟩) n 4 vs) (hel : ∀ (i : Nat) (x : OpD), xs[i]? = some x → OpV (Rd w0 L) ((vs.drop (i * 4)).take 4) x) {x : OpD} (hx : xs[i]? = some x) :
    ∃ (B : Option Addr) (cb : Nat), Rd w0 L (some ⟨ga, oa + i * 4, none⟩) 1 4 [.int .i64 x.ix, .slice B x.b.length cb, .int .i64 x.fr, .int .i64 x.mo] ∧ Rd w0 L B x.b.length 1 (B8 x.b) := by
  obtain ⟨B, cb, ex, hrb⟩ := hel i x hx
  have hil := (List.getElem?_eq_some_iff.1 hx).1
  have hrow := hRv.row_at i (by omega)
  rw [ex] at hrow
  exact ⟨B, cb, hrow, hrb⟩

end Go.Proofs.Ytdlimjcidblneaa

/-
  Two led in one term: Leaders of the program, of any list.
-/
import Derived.Test.YtcpcdhlfdabbnaaW8
import Derived.Test.YtcpcdhlfdabbnaaWk
namespace Go.Proofs.Ytcpcdhlfdabbnaa
open Go Go.RowKit Sl Go.Shelf
set_option maxHeartbeats 20000000
set_option maxRecDepth 8000

/-- What of a server tells who led. -/
structure Sn where
  id : Int
  t : Int
  ld : Bool

def SnV : IsV Sn := fun _ cs x => (∃ cm b t A n c, cs = [.int .i64 x.id, .int .i64 x.t, .int .i64 cm, .bool x.ld, .int .i64 b, .int .i64 t, .slice A n c]) ∧ In64 x.id ∧ In64 x.t
theorem SnV.mono : IsV.Mono SnV := fun _ _ _ _ _ h => h
theorem SnV.slpick {w0 : World} {L L' : List HP} {cs : List Value} {xs : List Sn} (hp : Pick L' L) (h : SlV SnV 7 (Rd w0 L) cs xs) : SlV SnV 7 (Rd w0 L') cs xs := (SlV.mono SnV.mono).pick hp h

def Led (l : List Sn) (i : Nat) : Prop := ∃ x, l[i]? = some x ∧ x.ld = true ∧ ∃ k, k < i ∧ ∃ y, l[k]? = some y ∧ y.ld = true ∧ y.t = x.t ∧ y.id ≠ x.id
def FirstLed (l : List Sn) (r : Int) : Prop := (∃ i : Nat, r = i ∧ Led l i ∧ ∀ j, j < i → ¬ Led l j) ∨ (r = -1 ∧ ∀ j, ¬ Led l j)

theorem FirstLed.one {l : List Sn} {r q : Int} (h : FirstLed l r) (h' : FirstLed l q) : r = q := by
  rcases h with ⟨i, rfl, h1, h2⟩ | ⟨rfl, h1⟩ <;> rcases h' with ⟨j, rfl, h3, h4⟩ | ⟨rfl, h3⟩
  · rcases Nat.lt_trichotomy i j with h | rfl | h
    · exact absurd h1 (h4 i h)
    · rfl
    · exact absurd h3 (h2 j h)
  · exact absurd h1 (h3 i)
  · exact absurd h3 (h1 j)
  · rfl

theorem not_led_end {l : List Sn} (h : ∀ j, j < l.length → ¬ Led l j) : ∀ j, ¬ Led l j := by
  intro j hj
  obtain ⟨x, hx, _⟩ := id hj
  exact h j (List.getElem?_eq_some_iff.1 hx).1 hj

/-- Who led in which term so far: terms, blocks of maps, servers. -/
abbrev Gr := List (Int × Nat × Int)
def grOut (g : Gr) : List (Int × Value) := g.map fun p => (p.1, .map (some p.2.1))
def grIn (g : Gr) : List HP := g.map fun p => mp (Value.int .i64) In64 p.2.1 [(p.2.2, .bool true)]

structure GrOk (l : List Sn) (k : Nat) (g : Gr) : Prop where
  nd : (g.map (·.1)).Nodup
  all : ∀ i, i < k → ∀ y, l[i]? = some y → y.ld = true → ∃ b, (y.t, b, y.id) ∈ g
  from_ : ∀ p ∈ g, ∃ i, i < k ∧ ∃ y, l[i]? = some y ∧ y.ld = true ∧ y.t = p.1 ∧ y.id = p.2.2
  ok : ∀ p ∈ g, In64 p.1 ∧ In64 p.2.2

theorem GrOk.start (l : List Sn) : GrOk l 0 [] := ⟨by simp, fun i h => by omega, fun p h => (by simp at h), fun p h => (by simp at h)⟩

theorem GrOk.pass {l : List Sn} {k : Nat} {g : Gr} (h : GrOk l k g) {x : Sn} (hx : l[k]? = some x) (hl : x.ld = false ∨ ∃ b, (x.t, b, x.id) ∈ g) : GrOk l (k + 1) g := by
  refine ⟨h.nd, fun i hi y hy hyl => ?_, fun p hp => ?_, h.ok⟩
  · by_cases e : i = k
    · subst e; rw [hx] at hy; cases hy
      rcases hl with hl | hl
      · rw [hl] at hyl; cases hyl
      · exact hl
    · exact h.all i (by omega) y hy hyl
  · obtain ⟨i, h1, h2⟩ := h.from_ p hp; exact ⟨i, by omega, h2⟩

theorem GrOk.more {l : List Sn} {k : Nat} {g : Gr} (h : GrOk l k g) {x : Sn} (hx : l[k]? = some x) (hl : x.ld = true) (hno : ∀ p ∈ g, p.1 ≠ x.t) (h1 : In64 x.id) (h2 : In64 x.t) (b : Nat) : GrOk l (k + 1) (g ++ [(x.t, b, x.id)]) := by
  refine ⟨?_, fun i hi y hy hyl => ?_, fun p hp => ?_, fun p hp => ?_⟩
  · rw [List.map_append, List.nodup_append]
    refine ⟨h.nd, by simp, fun a ha c hc => ?_⟩
    simp only [List.map_cons, List.map_nil, List.mem_singleton] at hc
    obtain ⟨p, hp, rfl⟩ := List.mem_map.1 ha
    rw [hc]; exact hno p hp
  · by_cases e : i = k
    · subst e; rw [hx] at hy; cases hy; exact ⟨b, by simp⟩
    · obtain ⟨c, hc⟩ := h.all i (by omega) y hy hyl; exact ⟨c, by simp [hc]⟩
  · rcases List.mem_append.1 hp with hp | hp
    · obtain ⟨i, h1, h2⟩ := h.from_ p hp; exact ⟨i, by omega, h2⟩
    · simp only [List.mem_singleton] at hp; subst hp
      exact ⟨k, by omega, x, hx, hl, rfl, rfl⟩
  · rcases List.mem_append.1 hp with hp | hp
    · exact h.ok p hp
    · simp only [List.mem_singleton] at hp; subst hp; exact ⟨h2, h1⟩

theorem gr_one {g : Gr} (hn : (g.map (·.1)).Nodup) {t : Int} {b c : Nat} {i j : Int} (h1 : (t, b, i) ∈ g) (h2 : (t, c, j) ∈ g) : b = c ∧ i = j := by
  induction g with
  | nil => cases h1
  | cons p g ih =>
    simp only [List.map_cons, List.nodup_cons] at hn
    rcases List.mem_cons.1 h1 with h1 | h1 <;> rcases List.mem_cons.1 h2 with h2 | h2
    · rw [← h1] at h2; cases h2; exact ⟨rfl, rfl⟩
    · rw [← h1] at hn; exact absurd (List.mem_map.2 ⟨_, h2, rfl⟩) hn.1
    · rw [← h2] at hn; exact absurd (List.mem_map.2 ⟨_, h1, rfl⟩) hn.1
    · exact ih hn.2 h1 h2

theorem GrOk.not_led {l : List Sn} {k : Nat} {g : Gr} (h : GrOk l k g) {x : Sn} (hx : l[k]? = some x) (hl : x.ld = false ∨ (∀ p ∈ g, p.1 ≠ x.t) ∨ ∃ b, (x.t, b, x.id) ∈ g) : ¬ Led l k := by
  rintro ⟨x', hx', h1, i, hi, y, hy, hyl, ht, hid⟩
  rw [hx] at hx'; cases hx'
  obtain ⟨c, hc⟩ := h.all i hi y hy hyl
  rcases hl with hl | hl | ⟨b, hb⟩
  · rw [hl] at h1; cases h1
  · exact hl _ hc ht
  · rw [ht] at hc
    exact hid (gr_one h.nd hc hb).2

theorem GrOk.led {l : List Sn} {k : Nat} {g : Gr} (h : GrOk l k g) {x : Sn} (hx : l[k]? = some x) (hl : x.ld = true) {b : Nat} {i : Int} (hb : (x.t, b, i) ∈ g) (hne : i ≠ x.id) : Led l k := by
  obtain ⟨j, h1, y, h2, h3, h4, h5⟩ := h.from_ _ hb
  exact ⟨x, hx, hl, j, h1, y, h2, h3, h4, by rw [h5]; exact hne⟩

theorem grOut_get {g : Gr} (hn : (g.map (·.1)).Nodup) {t : Int} {b : Nat} {i : Int} (h : (t, b, i) ∈ g) : mget (grOut g) t = some (.map (some b)) :=
  mget_some (by simpa [grOut, List.map_map, Function.comp_def] using hn) (List.mem_map.2 ⟨_, h, rfl⟩)
theorem grOut_none {g : Gr} {t : Int} (h : ∀ p ∈ g, p.1 ≠ t) : mget (grOut g) t = none :=
  mget_none (by intro p hp; obtain ⟨q, hq, rfl⟩ := List.mem_map.1 hp; exact h q hq)
theorem grOut_put {g : Gr} {t : Int} {b : Nat} {i : Int} (h : ∀ p ∈ g, p.1 ≠ t) : mput (grOut g) t (.map (some b)) = grOut (g ++ [(t, b, i)]) := by
  rw [mput_none (by intro p hp; obtain ⟨q, hq, rfl⟩ := List.mem_map.1 hp; exact h q hq)]; simp [grOut]
theorem mput_id (i : Int) : mput (κ := Int) [(i, .bool true)] i (.bool true) = [(i, .bool true)] := by simp [mput]
theorem mput_two {i j : Int} (h : i ≠ j) : mput (κ := Int) [(i, .bool true)] j (.bool true) = [(i, .bool true), (j, .bool true)] := by simp [mput, h]

theorem leadersW_spec {w0 w : World} {L : List HP} {A : Option Addr} {c : Nat} (l : List Sn) (hl : l.length ≤ 1048576) (hs : Sat w0 w L) (hE : SlV SnV 7 (Rd w0 L) [.slice A l.length c] l) :
    Calls Try.prog 11 #[.slice A l.length c] w (fun e w' => ∃ r, e = .returned (.int .i64 r) ∧ FirstLed l r ∧ Sat w0 w' L) := by
  obtain ⟨A', ca', vs, he1, hRv, hvl, hel⟩ := hE
  simp only [List.cons.injEq, Value.slice.injEq, and_true, true_and] at he1
  obtain ⟨rfl, rfl⟩ := he1
  go_enter Try.func11, Try.ntmps11
  refine wk_seq (fun K0 hK0 => ?_)
  refine wk_reg ?_
  refine pl_take (v := ?_) rfl ?_ ?_
  rotate_left
  · (go_simp; first | done | with_reducible rfl | rfl | omega | assumption | (simp; omega))
  (try simp only [Act.put, aP, aZ, aS])
  refine pl_done ?_
  refine hK0.out _ _ ?_
  (try clear hK0 K0)
  refine wk_seq (fun K1 hK1 => ?_)
  refine wk_reg ?_
  refine pl_eff rfl (fun Kp hKp => ?_)
  ((with_reducible apply st_makeMap (Value.int .i64) In64); assumption; intro b6 w6 hs6)
  refine hKp.out _ _ ?_
  clear hKp Kp
  (try simp only [Act.put, aP, aZ, aS])
  refine pl_take (v := ?_) rfl ?_ ?_
  rotate_left
  · (go_simp; first | done | with_reducible rfl | rfl | omega | assumption | (simp; omega))
  (try simp only [Act.put, aP, aZ, aS])
  refine pl_done ?_
  refine hK1.out _ _ ?_
  (try clear hK1 K1)
  refine wk_seq (fun K2 hK2 => ?_)
  refine wk_seq (fun K3 hK3 => ?_)
  refine wk_reg ?_
  iterate 3 (refine pl_take (v := ?_) rfl ?_ ?_; rotate_left; (· (go_simp; first | done | with_reducible rfl | rfl | omega | assumption | (simp; omega))); (try simp only [Act.put, aP, aZ, aS]))
  refine pl_done ?_
  refine hK3.out _ _ ?_
  (try clear hK3 K3)
  refine wp_block ?_
  -- at a loop
  go_loopw [9] (fun s9 wr => ∃ (k : Nat) (g : Gr), s9 = .int .i64 k ∧ k ≤ l.length ∧ Hid (GrOk l k g) ∧ Hid (∀ j, j < k → ¬ Led l j) ∧ Sat w0 wr (mp (Value.int .i64) In64 b6 (grOut g) :: SatH (grIn g) :: L)) (fun s9 _ => l.length - (intOf s9).toNat)
  case atStart => exact ⟨0, [], rfl, Nat.zero_le _, GrOk.start l, by unfold Hid; intro j h; omega, (by assumption : Sat w0 _ (mp _ _ b6 [] :: L)).bag_nil.swap⟩
  case round =>
    obtain ⟨k, g, rfl, hk, Hg, Hn, hsC⟩ := hrel
    by_cases hlt : k < l.length
    · obtain ⟨x, hx⟩ : ∃ x, l[k]? = some x := ⟨l[k], List.getElem?_eq_getElem hlt⟩
      obtain ⟨⟨cm, vb, vt, Ax, nx, cx, ex⟩, hid, ht⟩ := hel k x hx
      obtain ⟨ga, oa, rfl⟩ := hRv.some_of hs (by omega)
      have hrow := hRv.row_at k hlt
      rw [ex] at hrow
      have Hx := Hid.mk' hx
      obtain ⟨xi, xt, xl⟩ := x
      simp only at hrow hid ht
      have i0 : (0 : Int) ≤ (k : Int) := by omega
      have i1 : (k : Int) < (l.length : Int) := by omega
      have hwk : IntKind.i64.wrap ((k : Int) + 1) = (k : Int) + 1 := IntWalk.i64_in _ (by omega)
      clear ex hx
      cases xl with
      | false =>
        have Hn' : Hid (∀ j, j < k + 1 → ¬ Led l j) := by
          intro j hj
          by_cases e : j = k
          · subst e; exact Hg.out.not_led Hx.out (.inl rfl)
          · exact Hn.out j (by omega)
        refine wk_seq (fun K4 hK4 => ?_)
        refine wk_reg ?_
        refine pl_take (v := .bool true) rfl ?_ ?_
        · (go_simp; first | done | with_reducible rfl | rfl | omega | assumption | (simp; omega))
        (try simp only [Act.put, aP, aZ, aS])
        refine pl_done ?_
        refine hK4.out _ _ ?_
        (try clear hK4 K4)
        refine wk_seq (fun K5 hK5 => ?_)
        refine wp_cond_true rfl ?_
        refine wp_skip ?_
        refine hK5.out _ _ ?_
        (try clear hK5 K5)
        refine wk_seq (fun K6 hK6 => ?_)
        refine wp_block ?_
        refine wk_seq (fun K7 hK7 => ?_)
        refine wk_reg ?_
        iterate 3 (refine pl_take (v := ?_) rfl ?_ ?_; rotate_left; (· (first | (first | ((with_reducible apply yl_loadAgg); assumption; rfl; (repeat (first | with_reducible exact Out.here _ | apply Out.there)); (simp); rfl; rfl) | ((with_reducible apply yl_loadAggR); assumption; rfl; (repeat (first | with_reducible assumption | with_reducible exact Rd.own | with_reducible exact Rd.nil | with_reducible apply Rd.cons)); rfl)) | (go_simp; first | done | with_reducible rfl | rfl | omega | assumption | (simp; omega)))); (try simp only [Act.put, aP, aZ, aS]))
        refine pl_eff rfl (fun Kp hKp => ?_)
        ((with_reducible apply st_alloc); assumption; intro b5 w5 hs5; simp only [Value.cells] at hs5)
        refine hKp.out _ _ ?_
        clear hKp Kp
        (try simp only [Act.put, aP, aZ, aS])
        refine pl_take (v := ?_) rfl ?_ ?_
        rotate_left
        · (go_simp; first | done | with_reducible rfl | rfl | omega | assumption | (simp; omega))
        (try simp only [Act.put, aP, aZ, aS])
        refine pl_eff rfl (fun Kp hKp => ?_)
        (first | ((with_reducible apply st_storeAll); assumption; rfl; (go_simp; rfl); (repeat (first | with_reducible exact Out.here _ | apply Out.there)); rfl; (focus (first | (simp [Value.oneCell']; done) | (simp [Value.cells, Value.oneCell']; done))); rfl; intro wr4_5 hsr4_5; simp only [Value.cells] at hsr4_5) | ((with_reducible apply st_store); assumption; rfl; (go_simp; rfl); (repeat (first | with_reducible exact Out.here _ | apply Out.there)); rfl; (first | (focus (simp [Value.oneCell']; done)) | (simp [Value.cells, Value.oneCell'])); (first | (focus (simp; done)) | (simp [Value.cells])); intro wr4_5 hsr4_5; simp only [upd, Value.cells] at hsr4_5))
        refine hKp.out _ _ ?_
        clear hKp Kp
        (try dsimp only [Act.put])
        refine pl_done ?_
        refine hK7.out _ _ ?_
        (try clear hK7 K7)
        refine wk_seq (fun K8 hK8 => ?_)
        refine wk_seq (fun K9 hK9 => ?_)
        refine wk_reg ?_
        iterate 2 (refine pl_take (v := ?_) rfl ?_ ?_; rotate_left; (· (first | ((with_reducible apply yl_load); assumption; rfl; (repeat (first | with_reducible assumption | ((with_reducible apply Cl.own); exact rfl) | ((with_reducible apply Cl.blkL); exact rfl) | with_reducible apply Cl.cons)); rfl) | (go_simp; first | done | with_reducible rfl | rfl | omega | assumption | (simp; omega)))); (try simp only [Act.put, aP, aZ, aS]))
        refine pl_take (v := .bool true) rfl ?_ ?_
        · (go_simp; first | done | with_reducible rfl | rfl | omega | assumption | (simp; omega))
        (try simp only [Act.put, aP, aZ, aS])
        refine pl_done ?_
        refine hK9.out _ _ ?_
        (try clear hK9 K9)
        refine wp_cond_true rfl ?_
        refine wp_exit ?_
        refine hK6.out _ _ ?_
        (try clear hK6 K6)
        refine wk_reg ?_
        iterate 2 (refine pl_take (v := ?_) rfl ?_ ?_; rotate_left; (· (go_simp; first | done | with_reducible rfl | rfl | omega | assumption | (simp; omega))); (try simp only [Act.put, aP, aZ, aS]))
        refine pl_done ?_
        dsimp only [Exit.then]
        go_roundw
        case rel => exact ⟨k + 1, g, by go_num, by omega, Hg.out.pass Hx.out (.inl rfl), Hn', (by assumption : Sat w0 _ _).pick (by (repeat (first | exact Pick.nil _ | exact Pick.tail _ | exact Out.here _ | apply Out.there | apply Pick.cons | apply Pick.drop)))⟩
        case measure => simp [intOf]; omega
      | true =>
        by_cases hf : ∃ p ∈ g, p.1 = xt
        · obtain ⟨⟨t', b, i⟩, hp, hpt⟩ := hf
          simp only at hpt
          subst hpt
          have hget := grOut_get Hg.out.nd hp
          have hin : In64 i := (Hg.out.ok _ hp).2
          obtain ⟨j, hj⟩ := List.mem_iff_getElem?.1 hp
          have hj' : (grIn g)[j]? = some (mp (Value.int .i64) In64 b [(i, .bool true)]) := by unfold grIn; rw [List.getElem?_map, hj]; rfl
          have hsB := hsC.swap.bag_take hj'
          have Hj' := Hid.mk' hj'
          have Hp := Hid.mk' hp
          clear hj' hj hsC hp
          by_cases hne : i = xi
          · subst hne
            have Hn' : Hid (∀ j, j < k + 1 → ¬ Led l j) := by
              intro j hj
              by_cases e : j = k
              · subst e; exact Hg.out.not_led Hx.out (.inr (.inr ⟨b, Hp.out⟩))
              · exact Hn.out j (by omega)
            refine wk_seq (fun K4 hK4 => ?_)
            refine wk_reg ?_
            refine pl_take (v := .bool true) rfl ?_ ?_
            · (go_simp; first | done | with_reducible rfl | rfl | omega | assumption | (simp; omega))
            (try simp only [Act.put, aP, aZ, aS])
            refine pl_done ?_
            refine hK4.out _ _ ?_
            (try clear hK4 K4)
            refine wk_seq (fun K5 hK5 => ?_)
            refine wp_cond_true rfl ?_
            refine wp_skip ?_
            refine hK5.out _ _ ?_
            (try clear hK5 K5)
            refine wk_seq (fun K6 hK6 => ?_)
            refine wp_block ?_
            refine wk_seq (fun K7 hK7 => ?_)
            refine wk_reg ?_
            iterate 3 (refine pl_take (v := ?_) rfl ?_ ?_; rotate_left; (· (first | (first | ((with_reducible apply yl_loadAgg); assumption; rfl; (repeat (first | with_reducible exact Out.here _ | apply Out.there)); (simp); rfl; rfl) | ((with_reducible apply yl_loadAggR); assumption; rfl; (repeat (first | with_reducible assumption | with_reducible exact Rd.own | with_reducible exact Rd.nil | with_reducible apply Rd.cons)); rfl)) | (go_simp; first | done | with_reducible rfl | rfl | omega | assumption | (simp; omega)))); (try simp only [Act.put, aP, aZ, aS]))
            refine pl_eff rfl (fun Kp hKp => ?_)
            ((with_reducible apply st_alloc); assumption; intro b5 w5 hs5; simp only [Value.cells] at hs5)
            refine hKp.out _ _ ?_
            clear hKp Kp
            (try simp only [Act.put, aP, aZ, aS])
            refine pl_take (v := ?_) rfl ?_ ?_
            rotate_left
            · (go_simp; first | done | with_reducible rfl | rfl | omega | assumption | (simp; omega))
            (try simp only [Act.put, aP, aZ, aS])
            refine pl_eff rfl (fun Kp hKp => ?_)
            (first | ((with_reducible apply st_storeAll); assumption; rfl; (go_simp; rfl); (repeat (first | with_reducible exact Out.here _ | apply Out.there)); rfl; (focus (first | (simp [Value.oneCell']; done) | (simp [Value.cells, Value.oneCell']; done))); rfl; intro wr4_5 hsr4_5; simp only [Value.cells] at hsr4_5) | ((with_reducible apply st_store); assumption; rfl; (go_simp; rfl); (repeat (first | with_reducible exact Out.here _ | apply Out.there)); rfl; (first | (focus (simp [Value.oneCell']; done)) | (simp [Value.cells, Value.oneCell'])); (first | (focus (simp; done)) | (simp [Value.cells])); intro wr4_5 hsr4_5; simp only [upd, Value.cells] at hsr4_5))
            refine hKp.out _ _ ?_
            clear hKp Kp
            (try dsimp only [Act.put])
            refine pl_done ?_
            refine hK7.out _ _ ?_
            (try clear hK7 K7)
            refine wk_seq (fun K8 hK8 => ?_)
            refine wk_seq (fun K9 hK9 => ?_)
            refine wk_reg ?_
            iterate 2 (refine pl_take (v := ?_) rfl ?_ ?_; rotate_left; (· (first | ((with_reducible apply yl_load); assumption; rfl; (repeat (first | with_reducible assumption | ((with_reducible apply Cl.own); exact rfl) | ((with_reducible apply Cl.blkL); exact rfl) | with_reducible apply Cl.cons)); rfl) | (go_simp; first | done | with_reducible rfl | rfl | omega | assumption | (simp; omega)))); (try simp only [Act.put, aP, aZ, aS]))
            refine pl_take (v := .bool false) rfl ?_ ?_
            · (go_simp; first | done | with_reducible rfl | rfl | omega | assumption | (simp; omega))
            (try simp only [Act.put, aP, aZ, aS])
            refine pl_done ?_
            refine hK9.out _ _ ?_
            (try clear hK9 K9)
            refine wp_cond_false rfl ?_
            refine wp_skip ?_
            refine hK8.out _ _ ?_
            (try clear hK8 K8)
            refine wk_seq (fun K10 hK10 => ?_)
            refine wk_seq (fun K11 hK11 => ?_)
            refine wk_reg ?_
            iterate 3 (refine pl_take (v := ?_) rfl ?_ ?_; rotate_left; (· (first | ((with_reducible apply yl_load); assumption; rfl; (repeat (first | with_reducible assumption | ((with_reducible apply Cl.own); exact rfl) | ((with_reducible apply Cl.blkL); exact rfl) | with_reducible apply Cl.cons)); rfl) | (go_simp; first | done | with_reducible rfl | rfl | omega | assumption | (simp; omega)))); (try simp only [Act.put, aP, aZ, aS]))
            refine pl_take (v := (.map (some b))) rfl ?_ ?_
            · ((with_reducible apply yl_lookupV (xk := t') ktInt); assumption; rfl; rfl; (repeat (first | with_reducible exact Out.here _ | apply Out.there)); exact ht; (simp [hget]))
            (try simp only [Act.put, aP, aZ, aS])
            refine pl_take (v := .bool false) rfl ?_ ?_
            · (go_simp; first | done | with_reducible rfl | rfl | omega | assumption | (simp; omega))
            (try simp only [Act.put, aP, aZ, aS])
            refine pl_done ?_
            refine hK11.out _ _ ?_
            (try clear hK11 K11)
            refine wp_cond_false rfl ?_
            refine wp_skip ?_
            refine hK10.out _ _ ?_
            (try clear hK10 K10)
            refine wk_seq (fun K12 hK12 => ?_)
            refine wk_reg ?_
            iterate 3 (refine pl_take (v := ?_) rfl ?_ ?_; rotate_left; (· (first | ((with_reducible apply yl_load); assumption; rfl; (repeat (first | with_reducible assumption | ((with_reducible apply Cl.own); exact rfl) | ((with_reducible apply Cl.blkL); exact rfl) | with_reducible apply Cl.cons)); rfl) | (go_simp; first | done | with_reducible rfl | rfl | omega | assumption | (simp; omega)))); (try simp only [Act.put, aP, aZ, aS]))
            refine pl_take (v := (.map (some b))) rfl ?_ ?_
            · ((with_reducible apply yl_lookupV (xk := t') ktInt); assumption; rfl; rfl; (repeat (first | with_reducible exact Out.here _ | apply Out.there)); exact ht; (simp [hget]))
            (try simp only [Act.put, aP, aZ, aS])
            iterate 2 (refine pl_take (v := ?_) rfl ?_ ?_; rotate_left; (· (first | ((with_reducible apply yl_load); assumption; rfl; (repeat (first | with_reducible assumption | ((with_reducible apply Cl.own); exact rfl) | ((with_reducible apply Cl.blkL); exact rfl) | with_reducible apply Cl.cons)); rfl) | (go_simp; first | done | with_reducible rfl | rfl | omega | assumption | (simp; omega)))); (try simp only [Act.put, aP, aZ, aS]))
            refine pl_eff rfl (fun Kp hKp => ?_)
            ((with_reducible apply st_mapUpdate (xk := i) ktInt); assumption; rfl; rfl; (go_simp; rfl); (repeat (first | with_reducible exact Out.here _ | apply Out.there)); exact hid; intro wr8_6 hsr8_6; rw [mput_id] at hsr8_6)
            refine hKp.out _ _ ?_
            clear hKp Kp
            (try dsimp only [Act.put])
            refine pl_done ?_
            refine hK12.out _ _ ?_
            (try clear hK12 K12)
            refine wk_seq (fun K13 hK13 => ?_)
            refine wk_reg ?_
            iterate 3 (refine pl_take (v := ?_) rfl ?_ ?_; rotate_left; (· (first | ((with_reducible apply yl_load); assumption; rfl; (repeat (first | with_reducible assumption | ((with_reducible apply Cl.own); exact rfl) | ((with_reducible apply Cl.blkL); exact rfl) | with_reducible apply Cl.cons)); rfl) | (go_simp; first | done | with_reducible rfl | rfl | omega | assumption | (simp; omega)))); (try simp only [Act.put, aP, aZ, aS]))
            refine pl_take (v := (.map (some b))) rfl ?_ ?_
            · ((with_reducible apply yl_lookupV (xk := t') ktInt); assumption; rfl; rfl; (repeat (first | with_reducible exact Out.here _ | apply Out.there)); exact ht; (simp [hget]))
            (try simp only [Act.put, aP, aZ, aS])
            refine pl_take (v := (.int .i64 1)) rfl ?_ ?_
            · ((with_reducible apply yl_maplenV (κ := Int)); assumption; rfl; (repeat (first | with_reducible exact Out.here _ | apply Out.there)); rfl)
            (try simp only [Act.put, aP, aZ, aS])
            refine pl_take (v := .bool false) rfl ?_ ?_
            · (go_simp; first | done | with_reducible rfl | rfl | omega | assumption | (simp; omega))
            (try simp only [Act.put, aP, aZ, aS])
            refine pl_done ?_
            refine hK13.out _ _ ?_
            (try clear hK13 K13)
            refine wp_cond_false rfl ?_
            refine wp_skip ?_
            refine hK6.out _ _ ?_
            (try clear hK6 K6)
            refine wk_reg ?_
            iterate 2 (refine pl_take (v := ?_) rfl ?_ ?_; rotate_left; (· (go_simp; first | done | with_reducible rfl | rfl | omega | assumption | (simp; omega))); (try simp only [Act.put, aP, aZ, aS]))
            refine pl_done ?_
            dsimp only [Exit.then]
            go_roundw
            case rel => exact ⟨k + 1, g, by go_num, by omega, Hg.out.pass Hx.out (.inr ⟨b, Hp.out⟩), Hn', (((by assumption : Sat w0 _ _).pick (T := mp (Value.int .i64) In64 b [(i, .bool true)] :: SatH ((grIn g).eraseIdx j) :: mp (Value.int .i64) In64 b6 (grOut g) :: L) (by (repeat (first | exact Pick.nil _ | exact Pick.tail _ | exact Out.here _ | apply Out.there | apply Pick.cons | apply Pick.drop)))).bag_put Hj'.out).swap⟩
            case measure => simp [intOf]; omega
          · have Hled : Hid (FirstLed l k) := .inl ⟨k, rfl, Hg.out.led Hx.out rfl Hp.out hne, Hn.out⟩
            refine wk_seq (fun K4 hK4 => ?_)
            refine wk_reg ?_
            refine pl_take (v := .bool true) rfl ?_ ?_
            · (go_simp; first | done | with_reducible rfl | rfl | omega | assumption | (simp; omega))
            (try simp only [Act.put, aP, aZ, aS])
            refine pl_done ?_
            refine hK4.out _ _ ?_
            (try clear hK4 K4)
            refine wk_seq (fun K5 hK5 => ?_)
            refine wp_cond_true rfl ?_
            refine wp_skip ?_
            refine hK5.out _ _ ?_
            (try clear hK5 K5)
            refine wk_seq (fun K6 hK6 => ?_)
            refine wp_block ?_
            refine wk_seq (fun K7 hK7 => ?_)
            refine wk_reg ?_
            iterate 3 (refine pl_take (v := ?_) rfl ?_ ?_; rotate_left; (· (first | (first | ((with_reducible apply yl_loadAgg); assumption; rfl; (repeat (first | with_reducible exact Out.here _ | apply Out.there)); (simp); rfl; rfl) | ((with_reducible apply yl_loadAggR); assumption; rfl; (repeat (first | with_reducible assumption | with_reducible exact Rd.own | with_reducible exact Rd.nil | with_reducible apply Rd.cons)); rfl)) | (go_simp; first | done | with_reducible rfl | rfl | omega | assumption | (simp; omega)))); (try simp only [Act.put, aP, aZ, aS]))
            refine pl_eff rfl (fun Kp hKp => ?_)
            ((with_reducible apply st_alloc); assumption; intro b5 w5 hs5; simp only [Value.cells] at hs5)
            refine hKp.out _ _ ?_
            clear hKp Kp
            (try simp only [Act.put, aP, aZ, aS])
            refine pl_take (v := ?_) rfl ?_ ?_
            rotate_left
            · (go_simp; first | done | with_reducible rfl | rfl | omega | assumption | (simp; omega))
            (try simp only [Act.put, aP, aZ, aS])
            refine pl_eff rfl (fun Kp hKp => ?_)
            (first | ((with_reducible apply st_storeAll); assumption; rfl; (go_simp; rfl); (repeat (first | with_reducible exact Out.here _ | apply Out.there)); rfl; (focus (first | (simp [Value.oneCell']; done) | (simp [Value.cells, Value.oneCell']; done))); rfl; intro wr4_5 hsr4_5; simp only [Value.cells] at hsr4_5) | ((with_reducible apply st_store); assumption; rfl; (go_simp; rfl); (repeat (first | with_reducible exact Out.here _ | apply Out.there)); rfl; (first | (focus (simp [Value.oneCell']; done)) | (simp [Value.cells, Value.oneCell'])); (first | (focus (simp; done)) | (simp [Value.cells])); intro wr4_5 hsr4_5; simp only [upd, Value.cells] at hsr4_5))
            refine hKp.out _ _ ?_
            clear hKp Kp
            (try dsimp only [Act.put])
            refine pl_done ?_
            refine hK7.out _ _ ?_
            (try clear hK7 K7)
            refine wk_seq (fun K8 hK8 => ?_)
            refine wk_seq (fun K9 hK9 => ?_)
            refine wk_reg ?_
            iterate 2 (refine pl_take (v := ?_) rfl ?_ ?_; rotate_left; (· (first | ((with_reducible apply yl_load); assumption; rfl; (repeat (first | with_reducible assumption | ((with_reducible apply Cl.own); exact rfl) | ((with_reducible apply Cl.blkL); exact rfl) | with_reducible apply Cl.cons)); rfl) | (go_simp; first | done | with_reducible rfl | rfl | omega | assumption | (simp; omega)))); (try simp only [Act.put, aP, aZ, aS]))
            refine pl_take (v := .bool false) rfl ?_ ?_
            · (go_simp; first | done | with_reducible rfl | rfl | omega | assumption | (simp; omega))
            (try simp only [Act.put, aP, aZ, aS])
            refine pl_done ?_
            refine hK9.out _ _ ?_
            (try clear hK9 K9)
            refine wp_cond_false rfl ?_
            refine wp_skip ?_
            refine hK8.out _ _ ?_
            (try clear hK8 K8)
            refine wk_seq (fun K10 hK10 => ?_)
            refine wk_seq (fun K11 hK11 => ?_)
            refine wk_reg ?_
            iterate 3 (refine pl_take (v := ?_) rfl ?_ ?_; rotate_left; (· (first | ((with_reducible apply yl_load); assumption; rfl; (repeat (first | with_reducible assumption | ((with_reducible apply Cl.own); exact rfl) | ((with_reducible apply Cl.blkL); exact rfl) | with_reducible apply Cl.cons)); rfl) | (go_simp; first | done | with_reducible rfl | rfl | omega | assumption | (simp; omega)))); (try simp only [Act.put, aP, aZ, aS]))
            refine pl_take (v := (.map (some b))) rfl ?_ ?_
            · ((with_reducible apply yl_lookupV (xk := t') ktInt); assumption; rfl; rfl; (repeat (first | with_reducible exact Out.here _ | apply Out.there)); exact ht; (simp [hget]))
            (try simp only [Act.put, aP, aZ, aS])
            refine pl_take (v := .bool false) rfl ?_ ?_
            · (go_simp; first | done | with_reducible rfl | rfl | omega | assumption | (simp; omega))
            (try simp only [Act.put, aP, aZ, aS])
            refine pl_done ?_
            refine hK11.out _ _ ?_
            (try clear hK11 K11)
            refine wp_cond_false rfl ?_
            refine wp_skip ?_
            refine hK10.out _ _ ?_
            (try clear hK10 K10)
            refine wk_seq (fun K12 hK12 => ?_)
            refine wk_reg ?_
            iterate 3 (refine pl_take (v := ?_) rfl ?_ ?_; rotate_left; (· (first | ((with_reducible apply yl_load); assumption; rfl; (repeat (first | with_reducible assumption | ((with_reducible apply Cl.own); exact rfl) | ((with_reducible apply Cl.blkL); exact rfl) | with_reducible apply Cl.cons)); rfl) | (go_simp; first | done | with_reducible rfl | rfl | omega | assumption | (simp; omega)))); (try simp only [Act.put, aP, aZ, aS]))
            refine pl_take (v := (.map (some b))) rfl ?_ ?_
            · ((with_reducible apply yl_lookupV (xk := t') ktInt); assumption; rfl; rfl; (repeat (first | with_reducible exact Out.here _ | apply Out.there)); exact ht; (simp [hget]))
            (try simp only [Act.put, aP, aZ, aS])
            iterate 2 (refine pl_take (v := ?_) rfl ?_ ?_; rotate_left; (· (first | ((with_reducible apply yl_load); assumption; rfl; (repeat (first | with_reducible assumption | ((with_reducible apply Cl.own); exact rfl) | ((with_reducible apply Cl.blkL); exact rfl) | with_reducible apply Cl.cons)); rfl) | (go_simp; first | done | with_reducible rfl | rfl | omega | assumption | (simp; omega)))); (try simp only [Act.put, aP, aZ, aS]))
            refine pl_eff rfl (fun Kp hKp => ?_)
            ((with_reducible apply st_mapUpdate (xk := xi) ktInt); assumption; rfl; rfl; (go_simp; rfl); (repeat (first | with_reducible exact Out.here _ | apply Out.there)); exact hid; intro wr8_6 hsr8_6; rw [mput_two hne] at hsr8_6)
            refine hKp.out _ _ ?_
            clear hKp Kp
            (try dsimp only [Act.put])
            refine pl_done ?_
            refine hK12.out _ _ ?_
            (try clear hK12 K12)
            refine wk_seq (fun K13 hK13 => ?_)
            refine wk_reg ?_
            iterate 3 (refine pl_take (v := ?_) rfl ?_ ?_; rotate_left; (· (first | ((with_reducible apply yl_load); assumption; rfl; (repeat (first | with_reducible assumption | ((with_reducible apply Cl.own); exact rfl) | ((with_reducible apply Cl.blkL); exact rfl) | with_reducible apply Cl.cons)); rfl) | (go_simp; first | done | with_reducible rfl | rfl | omega | assumption | (simp; omega)))); (try simp only [Act.put, aP, aZ, aS]))
            refine pl_take (v := (.map (some b))) rfl ?_ ?_
            · ((with_reducible apply yl_lookupV (xk := t') ktInt); assumption; rfl; rfl; (repeat (first | with_reducible exact Out.here _ | apply Out.there)); exact ht; (simp [hget]))
            (try simp only [Act.put, aP, aZ, aS])
            refine pl_take (v := (.int .i64 2)) rfl ?_ ?_
            · ((with_reducible apply yl_maplenV (κ := Int)); assumption; rfl; (repeat (first | with_reducible exact Out.here _ | apply Out.there)); rfl)
            (try simp only [Act.put, aP, aZ, aS])
            refine pl_take (v := .bool true) rfl ?_ ?_
            · (go_simp; first | done | with_reducible rfl | rfl | omega | assumption | (simp; omega))
            (try simp only [Act.put, aP, aZ, aS])
            refine pl_done ?_
            refine hK13.out _ _ ?_
            (try clear hK13 K13)
            refine wp_cond_true rfl ?_
            refine wk_seq (fun K14 hK14 => ?_)
            refine wk_reg ?_
            iterate 2 (refine pl_take (v := ?_) rfl ?_ ?_; rotate_left; (· (go_simp; first | done | with_reducible rfl | rfl | omega | assumption | (simp; omega))); (try simp only [Act.put, aP, aZ, aS]))
            refine pl_done ?_
            refine hK14.out _ _ ?_
            (try clear hK14 K14)
            refine wp_ret ?_
            go_ret
            exact ⟨k, rfl, Hled, (by assumption : Sat w0 _ _).pick (by (repeat (first | exact Pick.nil _ | exact Pick.tail _ | exact Out.here _ | apply Out.there | apply Pick.cons | apply Pick.drop)))⟩
        · have hno : ∀ p ∈ g, p.1 ≠ xt := fun p hp e => hf ⟨p, hp, e⟩
          have hget := grOut_none hno
          have Hn' : Hid (∀ j, j < k + 1 → ¬ Led l j) := by
            intro j hj
            by_cases e : j = k
            · subst e; exact Hg.out.not_led Hx.out (.inr (.inl hno))
            · exact Hn.out j (by omega)
          clear hf
          have hput := fun b => grOut_put (g := g) (t := xt) (b := b) (i := xi) hno
          have hget2 := fun b => grOut_get (Hg.out.more Hx.out rfl hno hid ht b).nd (t := xt) (b := b) (i := xi) (by simp)
          refine wk_seq (fun K4 hK4 => ?_)
          refine wk_reg ?_
          refine pl_take (v := .bool true) rfl ?_ ?_
          · (go_simp; first | done | with_reducible rfl | rfl | omega | assumption | (simp; omega))
          (try simp only [Act.put, aP, aZ, aS])
          refine pl_done ?_
          refine hK4.out _ _ ?_
          (try clear hK4 K4)
          refine wk_seq (fun K5 hK5 => ?_)
          refine wp_cond_true rfl ?_
          refine wp_skip ?_
          refine hK5.out _ _ ?_
          (try clear hK5 K5)
          refine wk_seq (fun K6 hK6 => ?_)
          refine wp_block ?_
          refine wk_seq (fun K7 hK7 => ?_)
          refine wk_reg ?_
          iterate 3 (refine pl_take (v := ?_) rfl ?_ ?_; rotate_left; (· (first | (first | ((with_reducible apply yl_loadAgg); assumption; rfl; (repeat (first | with_reducible exact Out.here _ | apply Out.there)); (simp); rfl; rfl) | ((with_reducible apply yl_loadAggR); assumption; rfl; (repeat (first | with_reducible assumption | with_reducible exact Rd.own | with_reducible exact Rd.nil | with_reducible apply Rd.cons)); rfl)) | (go_simp; first | done | with_reducible rfl | rfl | omega | assumption | (simp; omega)))); (try simp only [Act.put, aP, aZ, aS]))
          refine pl_eff rfl (fun Kp hKp => ?_)
          ((with_reducible apply st_alloc); assumption; intro b5 w5 hs5; simp only [Value.cells] at hs5)
          refine hKp.out _ _ ?_
          clear hKp Kp
          (try simp only [Act.put, aP, aZ, aS])
          refine pl_take (v := ?_) rfl ?_ ?_
          rotate_left
          · (go_simp; first | done | with_reducible rfl | rfl | omega | assumption | (simp; omega))
          (try simp only [Act.put, aP, aZ, aS])
          refine pl_eff rfl (fun Kp hKp => ?_)
          (first | ((with_reducible apply st_storeAll); assumption; rfl; (go_simp; rfl); (repeat (first | with_reducible exact Out.here _ | apply Out.there)); rfl; (focus (first | (simp [Value.oneCell']; done) | (simp [Value.cells, Value.oneCell']; done))); rfl; intro wr4_5 hsr4_5; simp only [Value.cells] at hsr4_5) | ((with_reducible apply st_store); assumption; rfl; (go_simp; rfl); (repeat (first | with_reducible exact Out.here _ | apply Out.there)); rfl; (first | (focus (simp [Value.oneCell']; done)) | (simp [Value.cells, Value.oneCell'])); (first | (focus (simp; done)) | (simp [Value.cells])); intro wr4_5 hsr4_5; simp only [upd, Value.cells] at hsr4_5))
          refine hKp.out _ _ ?_
          clear hKp Kp
          (try dsimp only [Act.put])
          refine pl_done ?_
          refine hK7.out _ _ ?_
          (try clear hK7 K7)
          refine wk_seq (fun K8 hK8 => ?_)
          refine wk_seq (fun K9 hK9 => ?_)
          refine wk_reg ?_
          iterate 2 (refine pl_take (v := ?_) rfl ?_ ?_; rotate_left; (· (first | ((with_reducible apply yl_load); assumption; rfl; (repeat (first | with_reducible assumption | ((with_reducible apply Cl.own); exact rfl) | ((with_reducible apply Cl.blkL); exact rfl) | with_reducible apply Cl.cons)); rfl) | (go_simp; first | done | with_reducible rfl | rfl | omega | assumption | (simp; omega)))); (try simp only [Act.put, aP, aZ, aS]))
          refine pl_take (v := .bool false) rfl ?_ ?_
          · (go_simp; first | done | with_reducible rfl | rfl | omega | assumption | (simp; omega))
          (try simp only [Act.put, aP, aZ, aS])
          refine pl_done ?_
          refine hK9.out _ _ ?_
          (try clear hK9 K9)
          refine wp_cond_false rfl ?_
          refine wp_skip ?_
          refine hK8.out _ _ ?_
          (try clear hK8 K8)
          refine wk_seq (fun K10 hK10 => ?_)
          refine wk_seq (fun K11 hK11 => ?_)
          refine wk_reg ?_
          iterate 3 (refine pl_take (v := ?_) rfl ?_ ?_; rotate_left; (· (first | ((with_reducible apply yl_load); assumption; rfl; (repeat (first | with_reducible assumption | ((with_reducible apply Cl.own); exact rfl) | ((with_reducible apply Cl.blkL); exact rfl) | with_reducible apply Cl.cons)); rfl) | (go_simp; first | done | with_reducible rfl | rfl | omega | assumption | (simp; omega)))); (try simp only [Act.put, aP, aZ, aS]))
          refine pl_take (v := (.map none)) rfl ?_ ?_
          · ((with_reducible apply yl_lookupV (xk := xt) ktInt); assumption; rfl; rfl; (repeat (first | with_reducible exact Out.here _ | apply Out.there)); exact ht; (simp [hget]))
          (try simp only [Act.put, aP, aZ, aS])
          refine pl_take (v := .bool true) rfl ?_ ?_
          · (go_simp; first | done | with_reducible rfl | rfl | omega | assumption | (simp; omega))
          (try simp only [Act.put, aP, aZ, aS])
          refine pl_done ?_
          refine hK11.out _ _ ?_
          (try clear hK11 K11)
          refine wp_cond_true rfl ?_
          refine wk_reg ?_
          iterate 3 (refine pl_take (v := ?_) rfl ?_ ?_; rotate_left; (· (first | ((with_reducible apply yl_load); assumption; rfl; (repeat (first | with_reducible assumption | ((with_reducible apply Cl.own); exact rfl) | ((with_reducible apply Cl.blkL); exact rfl) | with_reducible apply Cl.cons)); rfl) | (go_simp; first | done | with_reducible rfl | rfl | omega | assumption | (simp; omega)))); (try simp only [Act.put, aP, aZ, aS]))
          refine pl_eff rfl (fun Kp hKp => ?_)
          ((with_reducible apply st_makeMap (Value.int .i64) In64); assumption; intro b25 w25 hs25)
          refine hKp.out _ _ ?_
          clear hKp Kp
          (try simp only [Act.put, aP, aZ, aS])
          refine pl_eff rfl (fun Kp hKp => ?_)
          ((with_reducible apply st_mapUpdate (xk := xt) ktInt); assumption; rfl; rfl; (go_simp; rfl); (repeat (first | with_reducible exact Out.here _ | apply Out.there)); exact ht; intro wr7_4 hsr7_4; rw [hput] at hsr7_4)
          refine hKp.out _ _ ?_
          clear hKp Kp
          (try dsimp only [Act.put])
          refine pl_done ?_
          refine hK10.out _ _ ?_
          (try clear hK10 K10)
          refine wk_seq (fun K12 hK12 => ?_)
          refine wk_reg ?_
          iterate 3 (refine pl_take (v := ?_) rfl ?_ ?_; rotate_left; (· (first | ((with_reducible apply yl_load); assumption; rfl; (repeat (first | with_reducible assumption | ((with_reducible apply Cl.own); exact rfl) | ((with_reducible apply Cl.blkL); exact rfl) | with_reducible apply Cl.cons)); rfl) | (go_simp; first | done | with_reducible rfl | rfl | omega | assumption | (simp; omega)))); (try simp only [Act.put, aP, aZ, aS]))
          refine pl_take (v := (.map (some b25))) rfl ?_ ?_
          · ((with_reducible apply yl_lookupV (xk := xt) ktInt); assumption; rfl; rfl; (repeat (first | with_reducible exact Out.here _ | apply Out.there)); exact ht; (simp [hget2]))
          (try simp only [Act.put, aP, aZ, aS])
          iterate 2 (refine pl_take (v := ?_) rfl ?_ ?_; rotate_left; (· (first | ((with_reducible apply yl_load); assumption; rfl; (repeat (first | with_reducible assumption | ((with_reducible apply Cl.own); exact rfl) | ((with_reducible apply Cl.blkL); exact rfl) | with_reducible apply Cl.cons)); rfl) | (go_simp; first | done | with_reducible rfl | rfl | omega | assumption | (simp; omega)))); (try simp only [Act.put, aP, aZ, aS]))
          refine pl_eff rfl (fun Kp hKp => ?_)
          ((with_reducible apply st_mapUpdate (xk := xi) ktInt); assumption; rfl; rfl; (go_simp; rfl); (repeat (first | with_reducible exact Out.here _ | apply Out.there)); exact hid; intro wr8_6 hsr8_6; rw [show mput (κ := Int) [] xi (.bool true) = [(xi, .bool true)] from rfl] at hsr8_6)
          refine hKp.out _ _ ?_
          clear hKp Kp
          (try dsimp only [Act.put])
          refine pl_done ?_
          refine hK12.out _ _ ?_
          (try clear hK12 K12)
          refine wk_seq (fun K13 hK13 => ?_)
          refine wk_reg ?_
          iterate 3 (refine pl_take (v := ?_) rfl ?_ ?_; rotate_left; (· (first | ((with_reducible apply yl_load); assumption; rfl; (repeat (first | with_reducible assumption | ((with_reducible apply Cl.own); exact rfl) | ((with_reducible apply Cl.blkL); exact rfl) | with_reducible apply Cl.cons)); rfl) | (go_simp; first | done | with_reducible rfl | rfl | omega | assumption | (simp; omega)))); (try simp only [Act.put, aP, aZ, aS]))
          refine pl_take (v := (.map (some b25))) rfl ?_ ?_
          · ((with_reducible apply yl_lookupV (xk := xt) ktInt); assumption; rfl; rfl; (repeat (first | with_reducible exact Out.here _ | apply Out.there)); exact ht; (simp [hget2]))
          (try simp only [Act.put, aP, aZ, aS])
          refine pl_take (v := (.int .i64 1)) rfl ?_ ?_
          · ((with_reducible apply yl_maplenV (κ := Int)); assumption; rfl; (repeat (first | with_reducible exact Out.here _ | apply Out.there)); rfl)
          (try simp only [Act.put, aP, aZ, aS])
          refine pl_take (v := .bool false) rfl ?_ ?_
          · (go_simp; first | done | with_reducible rfl | rfl | omega | assumption | (simp; omega))
          (try simp only [Act.put, aP, aZ, aS])
          refine pl_done ?_
          refine hK13.out _ _ ?_
          (try clear hK13 K13)
          refine wp_cond_false rfl ?_
          refine wp_skip ?_
          refine hK6.out _ _ ?_
          (try clear hK6 K6)
          refine wk_reg ?_
          iterate 2 (refine pl_take (v := ?_) rfl ?_ ?_; rotate_left; (· (go_simp; first | done | with_reducible rfl | rfl | omega | assumption | (simp; omega))); (try simp only [Act.put, aP, aZ, aS]))
          refine pl_done ?_
          dsimp only [Exit.then]
          go_roundw
          case rel => exact ⟨k + 1, g ++ [(xt, b25, xi)], by go_num, by omega, Hg.out.more Hx.out rfl hno hid ht b25, Hn', by simp only [grIn, List.map_append, List.map_cons, List.map_nil]; exact ((by assumption : Sat w0 _ _).pick (T := mp (Value.int .i64) In64 b25 [(xi, .bool true)] :: mp (Value.int .i64) In64 b6 (grOut (g ++ [(xt, b25, xi)])) :: SatH (grIn g) :: L) (by (repeat (first | exact Pick.nil _ | exact Pick.tail _ | exact Out.here _ | apply Out.there | apply Pick.cons | apply Pick.drop)))).bag_snoc2⟩
          case measure => simp [intOf]; omega
    · obtain rfl : k = l.length := by omega
      refine wk_seq (fun K4 hK4 => ?_)
      refine wk_reg ?_
      refine pl_take (v := .bool false) rfl ?_ ?_
      · (go_simp; first | done | with_reducible rfl | rfl | omega | assumption | (simp; omega))
      (try simp only [Act.put, aP, aZ, aS])
      refine pl_done ?_
      refine hK4.out _ _ ?_
      (try clear hK4 K4)
      refine wk_seq (fun K5 hK5 => ?_)
      refine wp_cond_false rfl ?_
      refine wp_exit ?_
      refine hK2.out _ _ ?_
      (try clear hK2 K2)
      refine wk_seq (fun K15 hK15 => ?_)
      refine wk_reg ?_
      refine pl_take (v := ?_) rfl ?_ ?_
      rotate_left
      · (go_simp; first | done | with_reducible rfl | rfl | omega | assumption | (simp; omega))
      (try simp only [Act.put, aP, aZ, aS])
      refine pl_done ?_
      refine hK15.out _ _ ?_
      (try clear hK15 K15)
      refine wp_ret ?_
      go_ret
      exact ⟨-1, rfl, .inr ⟨rfl, not_led_end Hn.out⟩, (by assumption : Sat w0 _ _).pick (by (repeat (first | exact Pick.nil _ | exact Pick.tail _ | exact Out.here _ | apply Out.there | apply Pick.cons | apply Pick.drop)))⟩
end Go.Proofs.Ytcpcdhlfdabbnaa

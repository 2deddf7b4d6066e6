/-
  Two logs, side by side: both.
-/
import Derived.Test.YtcpcdhlfdabbnaaW3
namespace Go.Proofs.Ytcpcdhlfdabbnaa
open Go Go.RowKit Sl Go.Shelf
set_option maxHeartbeats 20000000
set_option maxRecDepth 8000

/-- What comes of looking at both, from an index on, so many times at most. -/
def runW (step : Int → Ent → Ent → Int → Bool × Int) (a b : Vw) : Nat → Int → Int → Int
  | 0, _, s => s
  | n + 1, i, s =>
    match a.l[(i - a.b - 1).toNat]?, b.l[(i - b.b - 1).toNat]? with
    | some x, some y => if (step i x y s).1 then runW step a b n (i + 1) (step i x y s).2 else (step i x y s).2
    | _, _ => s

theorem runW_at {step : Int → Ent → Ent → Int → Bool × Int} {a b : Vw} {n : Nat} {i s : Int} {x y : Ent} (hx : a.l[(i - a.b - 1).toNat]? = some x) (hy : b.l[(i - b.b - 1).toNat]? = some y) :
    runW step a b (n + 1) i s = if (step i x y s).1 then runW step a b n (i + 1) (step i x y s).2 else (step i x y s).2 := by
  conv => lhs; unfold runW; rw [hx, hy]

def lastV (v : Vw) : Int := v.b + v.l.length
def lo (a b : Vw) : Int := max a.b b.b
def hi (a b : Vw) (to : Int) : Int := min (min to (lastV a)) (lastV b)
def bothW (step : Int → Ent → Ent → Int → Bool × Int) (a b : Vw) (to : Int) (s : Int) : Int := runW step a b (hi a b to - lo a b).toNat (lo a b + 1) s

theorem both_spec {w0 w : World} {L : List HP} {A B : Option Addr} {ca cb f bn : Nat} (step : Int → Ent → Ent → Int → Bool × Int) (ab at_ : Int) (al : List Ent) (bb bt : Int) (bl : List Ent) (to s0 : Int)
    (ha0 : 0 ≤ ab) (ha1 : ab ≤ 549755813888) (hb0 : 0 ≤ bb) (hb1 : bb ≤ 549755813888) (hal : al.length ≤ 1048576) (hbl : bl.length ≤ 1048576)
    (hcf : ∀ (args : Array Value) (w : World), (callFunc f args).run Try.prog w = .ok (.enter f args) w)
    (hF : ∀ (i : Int) (x y : Ent) (s : Int) {w : World} {L' : List HP} {Ax Ay : Option Addr} {cx cy : Nat}, Sat w0 w (blk bn (.cells #[.int .i64 s] 3 (0, 0)) :: L') → x ∈ al → y ∈ bl → Rd w0 L' Ax x.d.length 1 (B8 x.d) → Rd w0 L' Ay y.d.length 1 (B8 y.d) →
      Calls Try.prog f #[.int .i64 i, .agg #[.int .i64 x.t, .int .i64 x.i, .int .i64 x.k, .slice Ax x.d.length cx], .agg #[.int .i64 y.t, .int .i64 y.i, .int .i64 y.k, .slice Ay y.d.length cy], .pointer (some ⟨bn, 0, none⟩)] w (fun e w' => e = .returned (.bool (step i x y s).1) ∧ Sat w0 w' (blk bn (.cells #[.int .i64 (step i x y s).2] 3 (0, 0)) :: L')))
    (hs : Sat w0 w (blk bn (.cells #[.int .i64 s0] 3 (0, 0)) :: L))
    (hE : SlV EntV 4 (Rd w0 L) [.slice A al.length ca] al) (hE' : SlV EntV 4 (Rd w0 L) [.slice B bl.length cb] bl) :
    Calls Try.prog 40 #[.agg #[.int .i64 ab, .int .i64 at_, .slice A al.length ca], .agg #[.int .i64 bb, .int .i64 bt, .slice B bl.length cb], .int .i64 to, .func (.func f) #[] #[.pointer (some ⟨bn, 0, none⟩)]] w
      (fun e w' => e = .returned (.tuple #[]) ∧ Sat w0 w' (blk bn (.cells #[.int .i64 (bothW step ⟨ab, at_, al⟩ ⟨bb, bt, bl⟩ to s0)] 3 (0, 0)) :: L)) := by
  obtain ⟨R, hR⟩ : ∃ R, bothW step ⟨ab, at_, al⟩ ⟨bb, bt, bl⟩ to s0 = R := ⟨_, rfl⟩
  rw [hR]
  have HR := Hid.mk' hR
  clear hR
  obtain ⟨A', ca', vs, he1, hRv, hvl, hel⟩ := hE
  simp only [List.cons.injEq, Value.slice.injEq, and_true, true_and] at he1
  obtain ⟨rfl, rfl⟩ := he1
  obtain ⟨B', cb', vs', he2, hRv', hvl', hel'⟩ := hE'
  simp only [List.cons.injEq, Value.slice.injEq, and_true, true_and] at he2
  obtain ⟨rfl, rfl⟩ := he2
  have hwa : IntKind.i64.wrap (ab + (al.length : Int)) = ab + (al.length : Int) := IntWalk.i64_in _ (by omega)
  have hwb : IntKind.i64.wrap (bb + (bl.length : Int)) = bb + (bl.length : Int) := IntWalk.i64_in _ (by omega)
  obtain ⟨h1, hh1⟩ : ∃ h1, (if ab + (al.length : Int) < to then ab + (al.length : Int) else to) = h1 := ⟨_, rfl⟩
  obtain ⟨h2, hh2⟩ : ∃ h2, (if bb + (bl.length : Int) < h1 then bb + (bl.length : Int) else h1) = h2 := ⟨_, rfl⟩
  obtain ⟨m, hm⟩ : ∃ m, (if ab < bb then bb else ab) = m := ⟨_, rfl⟩
  have g1 : h1 ≤ ab + al.length ∧ h1 ≤ to ∧ (h1 = ab + al.length ∨ h1 = to) := by rw [← hh1]; split <;> omega
  have g2 : h2 ≤ bb + bl.length ∧ h2 ≤ h1 ∧ (h2 = bb + bl.length ∨ h2 = h1) := by rw [← hh2]; split <;> omega
  have g3 : ab ≤ m ∧ bb ≤ m ∧ (m = ab ∨ m = bb) := by rw [← hm]; split <;> omega
  have Hg : Hid (R = runW step ⟨ab, at_, al⟩ ⟨bb, bt, bl⟩ (h2 + 1 - (m + 1)).toNat (m + 1) s0) := by
    unfold Hid; rw [← HR.out]
    have e1 : lo ⟨ab, at_, al⟩ ⟨bb, bt, bl⟩ = m := by unfold lo; simp only; omega
    have e2 : hi ⟨ab, at_, al⟩ ⟨bb, bt, bl⟩ to = h2 := by unfold hi lastV; simp only; omega
    unfold bothW
    rw [e1, e2, show h2 + 1 - (m + 1) = h2 - m from by omega]
  have hwm : IntKind.i64.wrap (m + 1) = m + 1 := IntWalk.i64_in _ (by omega)
  go_enter Try.func40, Try.ntmps40
  refine wk_seq (fun K0 hK0 => ?_)
  refine wk_reg ?_
  refine pl_eff rfl (fun Kp hKp => ?_)
  ((with_reducible apply st_box); assumption; (go_simp; rfl); intro b4 w4 hs4; simp only [Value.cells] at hs4)
  refine hKp.out _ _ ?_
  clear hKp Kp
  (try simp only [Act.put, aP, aZ, aS])
  refine pl_eff rfl (fun Kp hKp => ?_)
  ((with_reducible apply st_box); assumption; (go_simp; rfl); intro b5 w5 hs5; simp only [Value.cells] at hs5)
  refine hKp.out _ _ ?_
  clear hKp Kp
  (try simp only [Act.put, aP, aZ, aS])
  refine pl_done ?_
  refine hK0.out _ _ ?_
  (try clear hK0 K0)
  refine wk_seq (fun K1 hK1 => ?_)
  refine wk_reg ?_
  iterate 15 (refine pl_take (v := ?_) rfl ?_ ?_; rotate_left; (· (first | ((with_reducible apply yl_load); assumption; rfl; (repeat (first | with_reducible assumption | ((with_reducible apply Cl.own); exact rfl) | ((with_reducible apply Cl.blkL); exact rfl) | with_reducible apply Cl.cons)); rfl) | (go_simp; first | done | with_reducible rfl | rfl | omega | assumption | (simp; omega)))); (try simp only [Act.put, aP, aZ, aS]))
  refine pl_done ?_
  refine hK1.out _ _ ?_
  (try clear hK1 K1)
  refine wk_seq (fun K2 hK2 => ?_)
  refine wk_reg ?_
  iterate 7 (refine pl_take (v := ?_) rfl ?_ ?_; rotate_left; (· (first | ((with_reducible apply yl_load); assumption; rfl; (repeat (first | with_reducible assumption | ((with_reducible apply Cl.own); exact rfl) | ((with_reducible apply Cl.blkL); exact rfl) | with_reducible apply Cl.cons)); rfl) | (go_simp; first | done | with_reducible rfl | rfl | omega | assumption | (simp; omega)))); (try simp only [Act.put, aP, aZ, aS]))
  refine pl_done ?_
  refine hK2.out _ _ ?_
  (try clear hK2 K2)
  refine wp_block ?_
  -- at a loop
  clear hh1 hh2 hm
  go_loopw [8] (fun s8 wr => ∃ (i s : Int), s8 = .int .i64 i ∧ m + 1 ≤ i ∧ Hid (R = runW step ⟨ab, at_, al⟩ ⟨bb, bt, bl⟩ (h2 + 1 - i).toNat i s) ∧ Sat w0 wr (blk b4 (.cells #[.int .i64 ab, .int .i64 at_, .slice A al.length ca] 26 (0, 0)) :: blk b5 (.cells #[.int .i64 bb, .int .i64 bt, .slice B bl.length cb] 26 (0, 0)) :: blk bn (.cells #[.int .i64 s] 3 (0, 0)) :: L)) (fun s8 _ => (h2 + 1 - intOf s8).toNat)
  case atStart => exact ⟨m + 1, s0, rfl, by omega, Hg, (by assumption : Sat w0 _ _).pick (by (repeat (first | exact Pick.nil _ | exact Pick.tail _ | exact Out.here _ | apply Out.there | apply Pick.cons | apply Pick.drop)))⟩
  case round =>
    obtain ⟨i, s, rfl, hi1, Hi, hsC⟩ := hrel
    clear Hg
    by_cases hlt : i ≤ h2
    · obtain ⟨ka, hka⟩ : ∃ ka : Nat, i = ab + 1 + ka := ⟨(i - ab - 1).toNat, by omega⟩
      obtain ⟨kb, hkb⟩ : ∃ kb : Nat, i = bb + 1 + kb := ⟨(i - bb - 1).toNat, by omega⟩
      have hla : ka < al.length := by omega
      have hlb : kb < bl.length := by omega
      obtain ⟨x, hx⟩ : ∃ x, al[ka]? = some x := ⟨al[ka], List.getElem?_eq_getElem hla⟩
      obtain ⟨y, hy⟩ : ∃ y, bl[kb]? = some y := ⟨bl[kb], List.getElem?_eq_getElem hlb⟩
      obtain ⟨⟨Ax, cx, ex, hrx⟩, _⟩ := hel ka x hx
      obtain ⟨⟨Ay, cy, ey, hry⟩, _⟩ := hel' kb y hy
      obtain ⟨ga, oa, rfl⟩ := hRv.some_of (hs.tail) (by omega)
      obtain ⟨gb, ob, rfl⟩ := hRv'.some_of (hs.tail) (by omega)
      have hrow := hRv.row_at ka hla
      have hrow' := hRv'.row_at kb hlb
      rw [ex] at hrow
      rw [ey] at hrow'
      have hCall := fun (w : World) (L' : List HP) (hs : Sat w0 w (blk bn (.cells #[.int .i64 s] 3 (0, 0)) :: L')) => hF i x y s (Ax := Ax) (Ay := Ay) (cx := cx) (cy := cy) hs (List.mem_of_getElem? hx) (List.mem_of_getElem? hy)
      obtain ⟨⟨r, s'⟩, hr⟩ : ∃ z, step i x y s = z := ⟨_, rfl⟩
      rw [hr] at hCall
      have Hn : Hid (R = if r then runW step ⟨ab, at_, al⟩ ⟨bb, bt, bl⟩ (h2 + 1 - (i + 1)).toNat (i + 1) s' else s') := by
        unfold Hid; rw [Hi.out, show (h2 + 1 - i).toNat = (h2 + 1 - (i + 1)).toNat + 1 from by omega]
        rw [runW_at (x := x) (y := y) (by simp only; rw [show (i - ab - 1).toNat = ka from by omega]; exact hx) (by simp only; rw [show (i - bb - 1).toNat = kb from by omega]; exact hy)]
        simp only [hr]
      have a0 : (0 : Int) ≤ (ka : Int) := by omega
      have a1 : (ka : Int) < (al.length : Int) := by omega
      have b0 : (0 : Int) ≤ (kb : Int) := by omega
      have b1' : (kb : Int) < (bl.length : Int) := by omega
      have w1' : IntKind.i64.wrap (i - ab) = i - ab := IntWalk.i64_in _ (by omega)
      have w2' : IntKind.i64.wrap (i - ab - 1) = (ka : Int) := by rw [IntWalk.i64_in _ (by omega)]; omega
      have w3' : IntKind.i64.wrap (i - bb) = i - bb := IntWalk.i64_in _ (by omega)
      have w4' : IntKind.i64.wrap (i - bb - 1) = (kb : Int) := by rw [IntWalk.i64_in _ (by omega)]; omega
      have hwk : IntKind.i64.wrap (i + 1) = i + 1 := IntWalk.i64_in _ (by omega)
      obtain ⟨et, ei, q, d⟩ := x
      obtain ⟨et', ei', q', d'⟩ := y
      simp only at hrow hrow' hrx hry hCall
      have Hka := Hid.mk' hka
      have Hkb := Hid.mk' hkb
      clear ex ey hel hel' hx hy hr hka hkb
      cases r with
      | true =>
        refine wk_seq (fun K3 hK3 => ?_)
        refine wk_seq (fun K4 hK4 => ?_)
        refine wk_reg ?_
        iterate 2 (refine pl_take (v := ?_) rfl ?_ ?_; rotate_left; (· (go_simp; first | done | with_reducible rfl | rfl | omega | assumption | (simp; omega))); (try simp only [Act.put, aP, aZ, aS]))
        refine pl_take (v := .bool true) rfl ?_ ?_
        · (go_simp; first | done | with_reducible rfl | rfl | omega | assumption | (simp; omega))
        (try simp only [Act.put, aP, aZ, aS])
        refine pl_done ?_
        refine hK4.out _ _ ?_
        (try clear hK4 K4)
        refine wp_cond_true rfl ?_
        refine wp_skip ?_
        refine hK3.out _ _ ?_
        (try clear hK3 K3)
        refine wk_seq (fun K5 hK5 => ?_)
        refine wp_block ?_
        refine wk_seq (fun K6 hK6 => ?_)
        refine rg_start2 (L := blk b4 (.cells #[.int .i64 ab, .int .i64 at_, .slice (some ⟨ga, oa, none⟩) al.length ca] 26 (0, 0)) :: blk b5 (.cells #[.int .i64 bb, .int .i64 bt, .slice (some ⟨gb, ob, none⟩) bl.length cb] 26 (0, 0)) :: L) rfl (by assumption) (by (repeat (first | exact Pick.nil _ | with_reducible exact Pick.tail _ | with_reducible exact Out.here _ | apply Out.there | apply Pick.cons | apply Pick.drop))) (fun wr5 hsr5 hsq5 => ?_)
        have hsz5 := hsr5
        refine rg_take (i := 0) (v := ?_) rfl (by kernel_rfl) (by kernel_rfl) (by kernel_rfl) (fun _ _ _ h => h) rfl (by assumption) ?_ ?_
        rotate_left
        · intro w hSw; (go_simp; first | done | with_reducible rfl | rfl | omega | assumption | (simp; omega))
        (try simp only [Act.put, aP, aZ, aS])
        refine rg_take (i := 1) (v := ?_) rfl (by kernel_rfl) (by kernel_rfl) (by kernel_rfl) (fun _ _ _ h => h) rfl (by assumption) ?_ ?_
        rotate_left
        · intro w hSw; (go_simp; first | done | with_reducible rfl | rfl | omega | assumption | (simp; omega))
        (try simp only [Act.put, aP, aZ, aS])
        refine rg_take (i := 2) (v := ?_) rfl (by kernel_rfl) (by kernel_rfl) (by kernel_rfl) (fun _ _ _ h => h) rfl (by assumption) ?_ ?_
        rotate_left
        · intro w hSw; (go_simp; first | done | with_reducible rfl | rfl | omega | assumption | (simp; omega))
        (try simp only [Act.put, aP, aZ, aS])
        refine rg_take (i := 3) (v := ?_) rfl (by kernel_rfl) (by kernel_rfl) (by kernel_rfl) (fun _ _ _ h => h) rfl (by assumption) ?_ ?_
        rotate_left
        · intro w hSw; ((with_reducible apply yl_load); assumption; rfl; (repeat (first | with_reducible assumption | ((with_reducible apply Cl.own); exact rfl) | ((with_reducible apply Cl.blkL); exact rfl) | with_reducible apply Cl.cons)); rfl)
        (try simp only [Act.put, aP, aZ, aS])
        refine rg_take (i := 4) (v := ?_) rfl (by kernel_rfl) (by kernel_rfl) (by kernel_rfl) (fun _ _ _ h => h) rfl (by assumption) ?_ ?_
        rotate_left
        · intro w hSw; (go_simp; first | done | with_reducible rfl | rfl | omega | assumption | (simp; omega))
        (try simp only [Act.put, aP, aZ, aS])
        refine rg_take (i := 5) (v := ?_) rfl (by kernel_rfl) (by kernel_rfl) (by kernel_rfl) (fun _ _ _ h => h) rfl (by assumption) ?_ ?_
        rotate_left
        · intro w hSw; (go_simp; first | done | with_reducible rfl | rfl | omega | assumption | (simp; omega))
        (try simp only [Act.put, aP, aZ, aS])
        refine rg_take (i := 6) (v := ?_) rfl (by kernel_rfl) (by kernel_rfl) (by kernel_rfl) (fun _ _ _ h => h) rfl (by assumption) ?_ ?_
        rotate_left
        · intro w hSw; ((with_reducible apply yl_load); assumption; rfl; (repeat (first | with_reducible assumption | ((with_reducible apply Cl.own); exact rfl) | ((with_reducible apply Cl.blkL); exact rfl) | with_reducible apply Cl.cons)); rfl)
        (try simp only [Act.put, aP, aZ, aS])
        refine rg_take (i := 7) (v := ?_) rfl (by kernel_rfl) (by kernel_rfl) (by kernel_rfl) (fun _ _ _ h => h) rfl (by assumption) ?_ ?_
        rotate_left
        · intro w hSw; (go_simp; first | done | with_reducible rfl | rfl | omega | assumption | (simp; omega))
        (try simp only [Act.put, aP, aZ, aS])
        refine rg_take (i := 8) (v := ?_) rfl (by kernel_rfl) (by kernel_rfl) (by kernel_rfl) (fun _ _ _ h => h) rfl (by assumption) ?_ ?_
        rotate_left
        · intro w hSw; (go_simp; first | done | with_reducible rfl | rfl | omega | assumption | (simp; omega))
        (try simp only [Act.put, aP, aZ, aS])
        refine rg_take (i := 9) (v := ?_) rfl (by kernel_rfl) (by kernel_rfl) (by kernel_rfl) (fun _ _ _ h => h) rfl (by assumption) ?_ ?_
        rotate_left
        · intro w hSw; (go_simp; first | done | with_reducible rfl | rfl | omega | assumption | (simp; omega))
        (try simp only [Act.put, aP, aZ, aS])
        refine rg_take (i := 10) (v := ?_) rfl (by kernel_rfl) (by kernel_rfl) (by kernel_rfl) (fun _ _ _ h => h) rfl (by assumption) ?_ ?_
        rotate_left
        · intro w hSw; (first | ((with_reducible apply yl_loadAgg); assumption; rfl; (repeat (first | with_reducible exact Out.here _ | apply Out.there)); (simp); rfl; rfl) | ((with_reducible apply yl_loadAggR); assumption; rfl; (repeat (first | with_reducible assumption | with_reducible exact Rd.own | with_reducible exact Rd.nil | with_reducible apply Rd.cons)); rfl))
        (try simp only [Act.put, aP, aZ, aS])
        refine rg_take (i := 11) (v := ?_) rfl (by kernel_rfl) (by kernel_rfl) (by kernel_rfl) (fun _ _ _ h => h) rfl (by assumption) ?_ ?_
        rotate_left
        · intro w hSw; (go_simp; first | done | with_reducible rfl | rfl | omega | assumption | (simp; omega))
        (try simp only [Act.put, aP, aZ, aS])
        refine rg_take (i := 12) (v := ?_) rfl (by kernel_rfl) (by kernel_rfl) (by kernel_rfl) (fun _ _ _ h => h) rfl (by assumption) ?_ ?_
        rotate_left
        · intro w hSw; ((with_reducible apply yl_load); assumption; rfl; (repeat (first | with_reducible assumption | ((with_reducible apply Cl.own); exact rfl) | ((with_reducible apply Cl.blkL); exact rfl) | with_reducible apply Cl.cons)); rfl)
        (try simp only [Act.put, aP, aZ, aS])
        refine rg_take (i := 13) (v := ?_) rfl (by kernel_rfl) (by kernel_rfl) (by kernel_rfl) (fun _ _ _ h => h) rfl (by assumption) ?_ ?_
        rotate_left
        · intro w hSw; (go_simp; first | done | with_reducible rfl | rfl | omega | assumption | (simp; omega))
        (try simp only [Act.put, aP, aZ, aS])
        refine rg_take (i := 14) (v := ?_) rfl (by kernel_rfl) (by kernel_rfl) (by kernel_rfl) (fun _ _ _ h => h) rfl (by assumption) ?_ ?_
        rotate_left
        · intro w hSw; (go_simp; first | done | with_reducible rfl | rfl | omega | assumption | (simp; omega))
        (try simp only [Act.put, aP, aZ, aS])
        refine rg_take (i := 15) (v := ?_) rfl (by kernel_rfl) (by kernel_rfl) (by kernel_rfl) (fun _ _ _ h => h) rfl (by assumption) ?_ ?_
        rotate_left
        · intro w hSw; ((with_reducible apply yl_load); assumption; rfl; (repeat (first | with_reducible assumption | ((with_reducible apply Cl.own); exact rfl) | ((with_reducible apply Cl.blkL); exact rfl) | with_reducible apply Cl.cons)); rfl)
        (try simp only [Act.put, aP, aZ, aS])
        refine rg_take (i := 16) (v := ?_) rfl (by kernel_rfl) (by kernel_rfl) (by kernel_rfl) (fun _ _ _ h => h) rfl (by assumption) ?_ ?_
        rotate_left
        · intro w hSw; (go_simp; first | done | with_reducible rfl | rfl | omega | assumption | (simp; omega))
        (try simp only [Act.put, aP, aZ, aS])
        refine rg_take (i := 17) (v := ?_) rfl (by kernel_rfl) (by kernel_rfl) (by kernel_rfl) (fun _ _ _ h => h) rfl (by assumption) ?_ ?_
        rotate_left
        · intro w hSw; (go_simp; first | done | with_reducible rfl | rfl | omega | assumption | (simp; omega))
        (try simp only [Act.put, aP, aZ, aS])
        refine rg_take (i := 18) (v := ?_) rfl (by kernel_rfl) (by kernel_rfl) (by kernel_rfl) (fun _ _ _ h => h) rfl (by assumption) ?_ ?_
        rotate_left
        · intro w hSw; (go_simp; first | done | with_reducible rfl | rfl | omega | assumption | (simp; omega))
        (try simp only [Act.put, aP, aZ, aS])
        refine rg_take (i := 19) (v := ?_) rfl (by kernel_rfl) (by kernel_rfl) (by kernel_rfl) (fun _ _ _ h => h) rfl (by assumption) ?_ ?_
        rotate_left
        · intro w hSw; (first | ((with_reducible apply yl_loadAgg); assumption; rfl; (repeat (first | with_reducible exact Out.here _ | apply Out.there)); (simp); rfl; rfl) | ((with_reducible apply yl_loadAggR); assumption; rfl; (repeat (first | with_reducible assumption | with_reducible exact Rd.own | with_reducible exact Rd.nil | with_reducible apply Rd.cons)); rfl))
        (try simp only [Act.put, aP, aZ, aS])
        refine rg_one (i := 20) (by kernel_rfl) rfl rfl (fun Kp hKp => ?_)
        go_simp
        (refine (hCall _ _ ((by assumption : Sat w0 _ _).pick (.cons (by (repeat (first | with_reducible exact Out.here _ | apply Out.there))) (.tail _))) (by (repeat (first | with_reducible assumption | with_reducible exact Rd.own | with_reducible exact Rd.nil | with_reducible apply Rd.cons))) (by (repeat (first | with_reducible assumption | with_reducible exact Rd.own | with_reducible exact Rd.nil | with_reducible apply Rd.cons)))).mono ?_; rintro e54 w54 ⟨rfl, hs54⟩)
        (try go_wp2_with fail)
        refine rg_back (hK := hKp) ?_ (fun hsk54 => ?_)
        · (first | assumption | (apply Sat.drew; assumption) | (apply Sat.pick; assumption; (repeat (first | exact Pick.nil _ | with_reducible exact Pick.tail _ | with_reducible exact Out.here _ | apply Out.there | apply Pick.cons | apply Pick.drop))))
        clear hKp Kp
        have hsz54 := hs54
        (try simp only [Act.put, aP, aZ, aS])
        refine rg_take (i := 21) (v := .bool false) rfl (by kernel_rfl) (by kernel_rfl) (by kernel_rfl) (fun _ _ _ h => h) rfl (by assumption) ?_ ?_
        · intro w hSw; (go_simp; first | done | with_reducible rfl | rfl | omega | assumption | (simp; omega))
        (try simp only [Act.put, aP, aZ, aS])
        refine rg_done (by kernel_rfl) ?_
        refine hK6.out _ _ ?_
        (try clear hK6 K6)
        refine wp_cond_false rfl ?_
        refine wp_skip ?_
        refine hK5.out _ _ ?_
        (try clear hK5 K5)
        refine wk_reg ?_
        iterate 3 (refine pl_take (v := ?_) rfl ?_ ?_; rotate_left; (· (go_simp; first | done | with_reducible rfl | rfl | omega | assumption | (simp; omega))); (try simp only [Act.put, aP, aZ, aS]))
        refine pl_done ?_
        dsimp only [Exit.then]
        go_roundw
        case rel => exact ⟨i + 1, s', by go_num, by omega, by unfold Hid; rw [Hn.out]; simp, (by assumption : Sat w0 _ _).pick (by (repeat (first | exact Pick.nil _ | exact Pick.tail _ | exact Out.here _ | apply Out.there | apply Pick.cons | apply Pick.drop)))⟩
        case measure => simp [intOf]; omega
      | false =>
        obtain rfl : R = s' := by rw [Hn.out]; simp
        refine wk_seq (fun K3 hK3 => ?_)
        refine wk_seq (fun K4 hK4 => ?_)
        refine wk_reg ?_
        iterate 2 (refine pl_take (v := ?_) rfl ?_ ?_; rotate_left; (· (go_simp; first | done | with_reducible rfl | rfl | omega | assumption | (simp; omega))); (try simp only [Act.put, aP, aZ, aS]))
        refine pl_take (v := .bool true) rfl ?_ ?_
        · (go_simp; first | done | with_reducible rfl | rfl | omega | assumption | (simp; omega))
        (try simp only [Act.put, aP, aZ, aS])
        refine pl_done ?_
        refine hK4.out _ _ ?_
        (try clear hK4 K4)
        refine wp_cond_true rfl ?_
        refine wp_skip ?_
        refine hK3.out _ _ ?_
        (try clear hK3 K3)
        refine wk_seq (fun K5 hK5 => ?_)
        refine wp_block ?_
        refine wk_seq (fun K6 hK6 => ?_)
        refine rg_start2 (L := blk b4 (.cells #[.int .i64 ab, .int .i64 at_, .slice (some ⟨ga, oa, none⟩) al.length ca] 26 (0, 0)) :: blk b5 (.cells #[.int .i64 bb, .int .i64 bt, .slice (some ⟨gb, ob, none⟩) bl.length cb] 26 (0, 0)) :: L) rfl (by assumption) (by (repeat (first | exact Pick.nil _ | with_reducible exact Pick.tail _ | with_reducible exact Out.here _ | apply Out.there | apply Pick.cons | apply Pick.drop))) (fun wr5 hsr5 hsq5 => ?_)
        have hsz5 := hsr5
        refine rg_take (i := 0) (v := ?_) rfl (by kernel_rfl) (by kernel_rfl) (by kernel_rfl) (fun _ _ _ h => h) rfl (by assumption) ?_ ?_
        rotate_left
        · intro w hSw; (go_simp; first | done | with_reducible rfl | rfl | omega | assumption | (simp; omega))
        (try simp only [Act.put, aP, aZ, aS])
        refine rg_take (i := 1) (v := ?_) rfl (by kernel_rfl) (by kernel_rfl) (by kernel_rfl) (fun _ _ _ h => h) rfl (by assumption) ?_ ?_
        rotate_left
        · intro w hSw; (go_simp; first | done | with_reducible rfl | rfl | omega | assumption | (simp; omega))
        (try simp only [Act.put, aP, aZ, aS])
        refine rg_take (i := 2) (v := ?_) rfl (by kernel_rfl) (by kernel_rfl) (by kernel_rfl) (fun _ _ _ h => h) rfl (by assumption) ?_ ?_
        rotate_left
        · intro w hSw; (go_simp; first | done | with_reducible rfl | rfl | omega | assumption | (simp; omega))
        (try simp only [Act.put, aP, aZ, aS])
        refine rg_take (i := 3) (v := ?_) rfl (by kernel_rfl) (by kernel_rfl) (by kernel_rfl) (fun _ _ _ h => h) rfl (by assumption) ?_ ?_
        rotate_left
        · intro w hSw; ((with_reducible apply yl_load); assumption; rfl; (repeat (first | with_reducible assumption | ((with_reducible apply Cl.own); exact rfl) | ((with_reducible apply Cl.blkL); exact rfl) | with_reducible apply Cl.cons)); rfl)
        (try simp only [Act.put, aP, aZ, aS])
        refine rg_take (i := 4) (v := ?_) rfl (by kernel_rfl) (by kernel_rfl) (by kernel_rfl) (fun _ _ _ h => h) rfl (by assumption) ?_ ?_
        rotate_left
        · intro w hSw; (go_simp; first | done | with_reducible rfl | rfl | omega | assumption | (simp; omega))
        (try simp only [Act.put, aP, aZ, aS])
        refine rg_take (i := 5) (v := ?_) rfl (by kernel_rfl) (by kernel_rfl) (by kernel_rfl) (fun _ _ _ h => h) rfl (by assumption) ?_ ?_
        rotate_left
        · intro w hSw; (go_simp; first | done | with_reducible rfl | rfl | omega | assumption | (simp; omega))
        (try simp only [Act.put, aP, aZ, aS])
        refine rg_take (i := 6) (v := ?_) rfl (by kernel_rfl) (by kernel_rfl) (by kernel_rfl) (fun _ _ _ h => h) rfl (by assumption) ?_ ?_
        rotate_left
        · intro w hSw; ((with_reducible apply yl_load); assumption; rfl; (repeat (first | with_reducible assumption | ((with_reducible apply Cl.own); exact rfl) | ((with_reducible apply Cl.blkL); exact rfl) | with_reducible apply Cl.cons)); rfl)
        (try simp only [Act.put, aP, aZ, aS])
        refine rg_take (i := 7) (v := ?_) rfl (by kernel_rfl) (by kernel_rfl) (by kernel_rfl) (fun _ _ _ h => h) rfl (by assumption) ?_ ?_
        rotate_left
        · intro w hSw; (go_simp; first | done | with_reducible rfl | rfl | omega | assumption | (simp; omega))
        (try simp only [Act.put, aP, aZ, aS])
        refine rg_take (i := 8) (v := ?_) rfl (by kernel_rfl) (by kernel_rfl) (by kernel_rfl) (fun _ _ _ h => h) rfl (by assumption) ?_ ?_
        rotate_left
        · intro w hSw; (go_simp; first | done | with_reducible rfl | rfl | omega | assumption | (simp; omega))
        (try simp only [Act.put, aP, aZ, aS])
        refine rg_take (i := 9) (v := ?_) rfl (by kernel_rfl) (by kernel_rfl) (by kernel_rfl) (fun _ _ _ h => h) rfl (by assumption) ?_ ?_
        rotate_left
        · intro w hSw; (go_simp; first | done | with_reducible rfl | rfl | omega | assumption | (simp; omega))
        (try simp only [Act.put, aP, aZ, aS])
        refine rg_take (i := 10) (v := ?_) rfl (by kernel_rfl) (by kernel_rfl) (by kernel_rfl) (fun _ _ _ h => h) rfl (by assumption) ?_ ?_
        rotate_left
        · intro w hSw; (first | ((with_reducible apply yl_loadAgg); assumption; rfl; (repeat (first | with_reducible exact Out.here _ | apply Out.there)); (simp); rfl; rfl) | ((with_reducible apply yl_loadAggR); assumption; rfl; (repeat (first | with_reducible assumption | with_reducible exact Rd.own | with_reducible exact Rd.nil | with_reducible apply Rd.cons)); rfl))
        (try simp only [Act.put, aP, aZ, aS])
        refine rg_take (i := 11) (v := ?_) rfl (by kernel_rfl) (by kernel_rfl) (by kernel_rfl) (fun _ _ _ h => h) rfl (by assumption) ?_ ?_
        rotate_left
        · intro w hSw; (go_simp; first | done | with_reducible rfl | rfl | omega | assumption | (simp; omega))
        (try simp only [Act.put, aP, aZ, aS])
        refine rg_take (i := 12) (v := ?_) rfl (by kernel_rfl) (by kernel_rfl) (by kernel_rfl) (fun _ _ _ h => h) rfl (by assumption) ?_ ?_
        rotate_left
        · intro w hSw; ((with_reducible apply yl_load); assumption; rfl; (repeat (first | with_reducible assumption | ((with_reducible apply Cl.own); exact rfl) | ((with_reducible apply Cl.blkL); exact rfl) | with_reducible apply Cl.cons)); rfl)
        (try simp only [Act.put, aP, aZ, aS])
        refine rg_take (i := 13) (v := ?_) rfl (by kernel_rfl) (by kernel_rfl) (by kernel_rfl) (fun _ _ _ h => h) rfl (by assumption) ?_ ?_
        rotate_left
        · intro w hSw; (go_simp; first | done | with_reducible rfl | rfl | omega | assumption | (simp; omega))
        (try simp only [Act.put, aP, aZ, aS])
        refine rg_take (i := 14) (v := ?_) rfl (by kernel_rfl) (by kernel_rfl) (by kernel_rfl) (fun _ _ _ h => h) rfl (by assumption) ?_ ?_
        rotate_left
        · intro w hSw; (go_simp; first | done | with_reducible rfl | rfl | omega | assumption | (simp; omega))
        (try simp only [Act.put, aP, aZ, aS])
        refine rg_take (i := 15) (v := ?_) rfl (by kernel_rfl) (by kernel_rfl) (by kernel_rfl) (fun _ _ _ h => h) rfl (by assumption) ?_ ?_
        rotate_left
        · intro w hSw; ((with_reducible apply yl_load); assumption; rfl; (repeat (first | with_reducible assumption | ((with_reducible apply Cl.own); exact rfl) | ((with_reducible apply Cl.blkL); exact rfl) | with_reducible apply Cl.cons)); rfl)
        (try simp only [Act.put, aP, aZ, aS])
        refine rg_take (i := 16) (v := ?_) rfl (by kernel_rfl) (by kernel_rfl) (by kernel_rfl) (fun _ _ _ h => h) rfl (by assumption) ?_ ?_
        rotate_left
        · intro w hSw; (go_simp; first | done | with_reducible rfl | rfl | omega | assumption | (simp; omega))
        (try simp only [Act.put, aP, aZ, aS])
        refine rg_take (i := 17) (v := ?_) rfl (by kernel_rfl) (by kernel_rfl) (by kernel_rfl) (fun _ _ _ h => h) rfl (by assumption) ?_ ?_
        rotate_left
        · intro w hSw; (go_simp; first | done | with_reducible rfl | rfl | omega | assumption | (simp; omega))
        (try simp only [Act.put, aP, aZ, aS])
        refine rg_take (i := 18) (v := ?_) rfl (by kernel_rfl) (by kernel_rfl) (by kernel_rfl) (fun _ _ _ h => h) rfl (by assumption) ?_ ?_
        rotate_left
        · intro w hSw; (go_simp; first | done | with_reducible rfl | rfl | omega | assumption | (simp; omega))
        (try simp only [Act.put, aP, aZ, aS])
        refine rg_take (i := 19) (v := ?_) rfl (by kernel_rfl) (by kernel_rfl) (by kernel_rfl) (fun _ _ _ h => h) rfl (by assumption) ?_ ?_
        rotate_left
        · intro w hSw; (first | ((with_reducible apply yl_loadAgg); assumption; rfl; (repeat (first | with_reducible exact Out.here _ | apply Out.there)); (simp); rfl; rfl) | ((with_reducible apply yl_loadAggR); assumption; rfl; (repeat (first | with_reducible assumption | with_reducible exact Rd.own | with_reducible exact Rd.nil | with_reducible apply Rd.cons)); rfl))
        (try simp only [Act.put, aP, aZ, aS])
        refine rg_one (i := 20) (by kernel_rfl) rfl rfl (fun Kp hKp => ?_)
        go_simp
        (refine (hCall _ _ ((by assumption : Sat w0 _ _).pick (.cons (by (repeat (first | with_reducible exact Out.here _ | apply Out.there))) (.tail _))) (by (repeat (first | with_reducible assumption | with_reducible exact Rd.own | with_reducible exact Rd.nil | with_reducible apply Rd.cons))) (by (repeat (first | with_reducible assumption | with_reducible exact Rd.own | with_reducible exact Rd.nil | with_reducible apply Rd.cons)))).mono ?_; rintro e54 w54 ⟨rfl, hs54⟩)
        (try go_wp2_with fail)
        refine rg_back (hK := hKp) ?_ (fun hsk54 => ?_)
        · (first | assumption | (apply Sat.drew; assumption) | (apply Sat.pick; assumption; (repeat (first | exact Pick.nil _ | with_reducible exact Pick.tail _ | with_reducible exact Out.here _ | apply Out.there | apply Pick.cons | apply Pick.drop))))
        clear hKp Kp
        have hsz54 := hs54
        (try simp only [Act.put, aP, aZ, aS])
        refine rg_take (i := 21) (v := .bool true) rfl (by kernel_rfl) (by kernel_rfl) (by kernel_rfl) (fun _ _ _ h => h) rfl (by assumption) ?_ ?_
        · intro w hSw; (go_simp; first | done | with_reducible rfl | rfl | omega | assumption | (simp; omega))
        (try simp only [Act.put, aP, aZ, aS])
        refine rg_done (by kernel_rfl) ?_
        refine hK6.out _ _ ?_
        (try clear hK6 K6)
        refine wp_cond_true rfl ?_
        refine wp_ret ?_
        ((try simp only [Exit.inBlock, Exit.then]); refine bodyPost_ret (results_none rfl _ _ _) rfl ?_)
        exact ⟨rfl, (by assumption : Sat w0 _ _).pick (by (repeat (first | exact Pick.nil _ | exact Pick.tail _ | exact Out.here _ | apply Out.there | apply Pick.cons | apply Pick.drop)))⟩
    · obtain rfl : R = s := by
        rw [Hi.out, show (h2 + 1 - i).toNat = 0 from by omega]; rfl
      refine wk_seq (fun K3 hK3 => ?_)
      refine wk_seq (fun K4 hK4 => ?_)
      refine wk_reg ?_
      iterate 2 (refine pl_take (v := ?_) rfl ?_ ?_; rotate_left; (· (go_simp; first | done | with_reducible rfl | rfl | omega | assumption | (simp; omega))); (try simp only [Act.put, aP, aZ, aS]))
      refine pl_take (v := .bool false) rfl ?_ ?_
      · (go_simp; first | done | with_reducible rfl | rfl | omega | assumption | (simp; omega))
      (try simp only [Act.put, aP, aZ, aS])
      refine pl_done ?_
      refine hK4.out _ _ ?_
      (try clear hK4 K4)
      refine wp_cond_false rfl ?_
      refine wp_exit ?_
      -- the end
      simp only [Exit.then, Exit.inBlock]
      rw [if_pos trivial]
      go_end0
      exact ⟨rfl, (by assumption : Sat w0 _ _).pick (by (repeat (first | exact Pick.nil _ | exact Pick.tail _ | exact Out.here _ | apply Out.there | apply Pick.cons | apply Pick.drop)))⟩
end Go.Proofs.Ytcpcdhlfdabbnaa

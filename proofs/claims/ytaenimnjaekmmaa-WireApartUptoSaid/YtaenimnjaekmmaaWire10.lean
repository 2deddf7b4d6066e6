/-
  WireReads: the walk.
-/
import Derived.Test.YtaenimnjaekmmaaWire9
namespace Go.Proofs.Ytaenimnjaekmmaa
open Go Go.RowKit Sl Go.Shelf

theorem rdBytes_len {e : Int} {l y l2 : List UInt8} {e2 : Int} (h : rdBytes e l = (y, e2, l2)) : l2.length ≤ l.length ∧ y.length ≤ l.length := by
  obtain ⟨⟨v, e3, l3⟩, hx⟩ : ∃ x, rdNumber e l = x := ⟨_, rfl⟩
  obtain ⟨_, _, hl, _⟩ := rdNumber_ok hx
  unfold rdBytes at h
  rw [hx] at h
  simp only at h
  split at h
  · cases h; simp
  · split at h
    · cases h; simp
    · split at h
      · cases h; simp
      · cases h; simp; omega

theorem RR.err {w0 : World} {L : List HP} {buf : HP} {q : Nat} {e : Int} {l : List UInt8} : Cl w0 (RR buf q e l :: L) ⟨q, 2, none⟩ (.int .i64 e) := by
  intro w hs
  obtain ⟨A, c, B, at_, h1, h2, h3, rfl, h5, h6⟩ := RR.opened hs
  exact Cl.blk (L := L) (cur := #[.slice A B.length c, .int .i64 at_, .int .i64 e]) rfl w h6

set_option maxHeartbeats 4000000 in
theorem wireReads_walk {w0 w : World} {L : List HP} {A B : Option Addr} {c n d : Nat} (l : List UInt8) (bs : List Bool) (hl : l.length ≤ 1048576) (hn : n = bs.length) (hnb : n ≤ 1048576)
    (hs : Sat w0 w L) (hR : Rd w0 L A l.length 1 (B8 l)) (hRb : Rd w0 L B n 1 (bs.map Value.bool)) :
    Calls Try.prog 6 #[.slice A l.length c, .slice B n d] w (RetB w0 L true) := by
  have Hn : Hid (n = bs.length) := hn
  clear hn
  go_enter Try.func6, Try.ntmps6
  go_wp2_with (first | (go_at_call 10; refine (lent_spec l (by omega) hs hR).mono ?_; rintro e w2 ⟨g, cx, rfl, hs2⟩) | (go_at_call 29; refine (new_spec l (by omega) hs2 (Rd.lent l)).mono ?_; rintro e w3 ⟨p, bx, rfl, hs3⟩) | (go_at_call 30; refine (refNew_spec l (by omega) hs3 hR.cons.cons.cons).mono ?_; rintro e w4 ⟨q, br, rfl, hs4⟩) | (go_at_call 18; refine (knows_spec hs4).mono ?_; rintro e w5 ⟨rfl, hs5⟩) | (first | ((with_reducible apply wl_unguard); rfl) | ((with_reducible apply wl_buildSlice); assumption; rfl; (go_simp; rfl); (simp [Value.cells]); omega; intro b w1 hs1) | ((with_reducible apply wl_append); go_must (assumption; rfl; rfl; (repeat (first | exact Out.here _ | apply Out.there)); (repeat (first | assumption | exact Rd.own | exact Rd.nil | apply Rd.cons)); (first | exact B8_one _ | exact I8_one _ | (simp [Value.oneCell'])); (first | omega | (simp only [maxLen]; omega)); omega; intro A1 c1 w1 hs1 hc1; (try ((refine hs1.own_elim ?_ ?_); omega; rintro g1 rfl)); try simp only [Nat.zero_add, List.nil_append] at hs1 hc1)) | ((with_reducible apply wl_store_own); assumption; rfl; (go_simp; rfl); (repeat (first | exact Out.here _ | apply Out.there)); rfl; rfl; omega; intro w1 hs1) | ((with_reducible apply wl_store1); assumption; rfl; (go_simp; rfl); (repeat (first | exact Out.here _ | apply Out.there)); rfl; rfl; simp; intro w1 hs1; (try simp only [List.setIfInBounds_toArray] at hs1); (try simp only [List.set_cons_succ] at hs1); (try simp only [List.set_cons_zero] at hs1)) | ((with_reducible apply wl_load); assumption; rfl; (repeat (first | assumption | exact Cl.blk rfl | apply Cl.cons))) | ((with_reducible apply wl_b2s); assumption; rfl; (repeat (first | assumption | exact Rd.own | exact Rd.nil | apply Rd.cons)); first | rfl | (simp [B8_app]))) | fail)
  clear hs hs2 hs3 hs4
  go_loopw [8] (fun i wr => ∃ (k : Nat) (xs : List UInt8), i = .int .i64 k ∧ k ≤ l.length ∧ xs.length = l.length + 2 ∧ Sat w0 wr (own 5 1 (some ⟨g, 0, none⟩) cx (l.length + 2) (B8 xs) :: RR br q 0 l :: br :: Rd1 bx p 0 l :: bx :: L)) (fun i _ => l.length - (intOf i).toNat)
  case atStart => exact ⟨0, l ++ [201, 202], rfl, Nat.zero_le _, by simp, hs5.pick (by (repeat (first | exact Pick.nil _ | exact Pick.tail _ | exact Out.here _ | apply Out.there | apply Pick.cons | apply Pick.drop)))⟩
  case round =>
    obtain ⟨k, xs, rfl, hk, hxs, hs6⟩ := hrel
    clear hs5
    by_cases hlt : k < l.length
    · obtain ⟨u, hu⟩ : ∃ u, xs[k]? = some u := ⟨xs[k]'(by omega), List.getElem?_eq_getElem (by omega)⟩
      have hc : Cl w0 (own 5 1 (some ⟨g, 0, none⟩) cx (l.length + 2) (B8 xs) :: RR br q 0 l :: br :: Rd1 bx p 0 l :: bx :: L) ⟨g, k, none⟩ (.int .u8 u.toNat) := by
        have := Rd.own (w0 := w0) (L := RR br q 0 l :: br :: Rd1 bx p 0 l :: bx :: L) (E := 5) (sz := 1) (A := some ⟨g, 0, none⟩) (c := cx) (n := l.length + 2) (xs := B8 xs) |>.elt (k := k) (u := b8 u) (by rw [B8, List.getElem?_map, hu]; rfl)
        simpa [b8] using this
      have Hxs : Hid (xs.length = l.length + 2) := hxs
      have hub := u.toNat_lt
      have hlc := hs6.own_cap
      clear hxs hu
      go_wp2_with (first | ((with_reducible apply wl_unguard); rfl) | ((with_reducible apply wl_buildSlice); assumption; rfl; (go_simp; rfl); (simp [Value.cells]); omega; intro b w1 hs1) | ((with_reducible apply wl_append); go_must (assumption; rfl; rfl; (repeat (first | exact Out.here _ | apply Out.there)); (repeat (first | assumption | exact Rd.own | exact Rd.nil | apply Rd.cons)); (first | exact B8_one _ | exact I8_one _ | (simp [Value.oneCell'])); (first | omega | (simp only [maxLen]; omega)); omega; intro A1 c1 w1 hs1 hc1; (try ((refine hs1.own_elim ?_ ?_); omega; rintro g1 rfl)); try simp only [Nat.zero_add, List.nil_append] at hs1 hc1)) | ((with_reducible apply wl_store_own); assumption; rfl; (go_simp; rfl); (repeat (first | exact Out.here _ | apply Out.there)); rfl; rfl; omega; intro w1 hs1) | ((with_reducible apply wl_store1); assumption; rfl; (go_simp; rfl); (repeat (first | exact Out.here _ | apply Out.there)); rfl; rfl; simp; intro w1 hs1; (try simp only [List.setIfInBounds_toArray] at hs1); (try simp only [List.set_cons_succ] at hs1); (try simp only [List.set_cons_zero] at hs1)) | ((with_reducible apply wl_load); assumption; rfl; (repeat (first | assumption | exact Cl.blk rfl | apply Cl.cons))) | ((with_reducible apply wl_b2s); assumption; rfl; (repeat (first | assumption | exact Rd.own | exact Rd.nil | apply Rd.cons)); first | rfl | (simp [B8_app])))
      go_roundw
      case rel =>
        refine ⟨k + 1, xs.set k (UInt8.ofNat (u.toNat + 1)), by go_num, by omega, by simp [Hxs.out], hs1.pick ?_⟩
        rw [show B8 (xs.set k (UInt8.ofNat (u.toNat + 1))) = (B8 xs).set k (.int .u8 (((u.toNat : Int) + 1) % 256)) from by simp only [B8, List.map_set]; rw [b8_ofNat]; rfl]
        (repeat (first | exact Pick.nil _ | exact Pick.tail _ | exact Out.here _ | apply Out.there | apply Pick.cons | apply Pick.drop))
      case measure => simp [intOf]; omega
    · have hlc := hs6.own_cap
      clear hxs
      go_wp2_with (first | ((with_reducible apply wl_unguard); rfl) | ((with_reducible apply wl_buildSlice); assumption; rfl; (go_simp; rfl); (simp [Value.cells]); omega; intro b w1 hs1) | ((with_reducible apply wl_append); go_must (assumption; rfl; rfl; (repeat (first | exact Out.here _ | apply Out.there)); (repeat (first | assumption | exact Rd.own | exact Rd.nil | apply Rd.cons)); (first | exact B8_one _ | exact I8_one _ | (simp [Value.oneCell'])); (first | omega | (simp only [maxLen]; omega)); omega; intro A1 c1 w1 hs1 hc1; (try ((refine hs1.own_elim ?_ ?_); omega; rintro g1 rfl)); try simp only [Nat.zero_add, List.nil_append] at hs1 hc1)) | ((with_reducible apply wl_store_own); assumption; rfl; (go_simp; rfl); (repeat (first | exact Out.here _ | apply Out.there)); rfl; rfl; omega; intro w1 hs1) | ((with_reducible apply wl_store1); assumption; rfl; (go_simp; rfl); (repeat (first | exact Out.here _ | apply Out.there)); rfl; rfl; simp; intro w1 hs1; (try simp only [List.setIfInBounds_toArray] at hs1); (try simp only [List.set_cons_succ] at hs1); (try simp only [List.set_cons_zero] at hs1)) | ((with_reducible apply wl_load); assumption; rfl; (repeat (first | assumption | exact Cl.blk rfl | apply Cl.cons))) | ((with_reducible apply wl_b2s); assumption; rfl; (repeat (first | assumption | exact Rd.own | exact Rd.nil | apply Rd.cons)); first | rfl | (simp [B8_app])))
      go_loopw [9] (fun i wr => ∃ (k : Nat) (e : Int) (r : List UInt8), i = .int .i64 k ∧ k ≤ n ∧ r.length ≤ 1048576 ∧ Sat w0 wr (Rd1 bx p e r :: bx :: RR br q e r :: br :: L)) (fun i _ => n - (intOf i).toNat)
      case atStart => exact ⟨0, 0, l, rfl, Nat.zero_le _, hl, hs6.pick (by (repeat (first | exact Pick.nil _ | exact Pick.tail _ | exact Out.here _ | apply Out.there | apply Pick.cons | apply Pick.drop)))⟩
      case round =>
        obtain ⟨k, e, r, rfl, hk, hrl, hs7⟩ := hrel
        clear hs6 hlt hlc
        by_cases hlt : k < n
        · obtain ⟨gb, ob, rfl⟩ := hRb.some_of hs7.tail.tail.tail.tail (by omega)
          obtain ⟨t, ht⟩ : ∃ t, bs[k]? = some t := ⟨bs[k]'(by have := Hn.out; omega), List.getElem?_eq_getElem _⟩
          have hcb := hRb.elt (k := k) (u := .bool t) (by rw [List.getElem?_map, ht]; rfl)
          clear ht
          cases t with
          | true =>
            obtain ⟨⟨y, e2, r2⟩, hy⟩ : ∃ x, rdBytes e r = x := ⟨_, rfl⟩
            obtain ⟨hr2, hyl⟩ := rdBytes_len hy
            have hB := bytes_read e r (by omega) hs7
            rw [hy] at hB
            have hQ : ∀ {w : World} {L : List HP}, Sat w0 w (RR br q e r :: br :: L) → Calls Try.prog 31 #[.pointer (some ⟨q, 0, none⟩)] w (RetS w0 (RR br q e2 r2 :: br :: L) y) := fun hs => by
              have := refBytesR e r hs
              rwa [hy] at this
            clear hy
            go_wp2_with (first | (go_at_call 26; refine hB.mono ?_; rintro e' w8 ⟨A8, c8, rfl, hs8⟩) | (first | ((with_reducible apply wl_unguard); rfl) | ((with_reducible apply wl_buildSlice); assumption; rfl; (go_simp; rfl); (simp [Value.cells]); omega; intro b w1 hs1) | ((with_reducible apply wl_append); go_must (assumption; rfl; rfl; (repeat (first | exact Out.here _ | apply Out.there)); (repeat (first | assumption | exact Rd.own | exact Rd.nil | apply Rd.cons)); (first | exact B8_one _ | exact I8_one _ | (simp [Value.oneCell'])); (first | omega | (simp only [maxLen]; omega)); omega; intro A1 c1 w1 hs1 hc1; (try ((refine hs1.own_elim ?_ ?_); omega; rintro g1 rfl)); try simp only [Nat.zero_add, List.nil_append] at hs1 hc1)) | ((with_reducible apply wl_store_own); assumption; rfl; (go_simp; rfl); (repeat (first | exact Out.here _ | apply Out.there)); rfl; rfl; omega; intro w1 hs1) | ((with_reducible apply wl_store1); assumption; rfl; (go_simp; rfl); (repeat (first | exact Out.here _ | apply Out.there)); rfl; rfl; simp; intro w1 hs1; (try simp only [List.setIfInBounds_toArray] at hs1); (try simp only [List.set_cons_succ] at hs1); (try simp only [List.set_cons_zero] at hs1)) | ((with_reducible apply wl_load); assumption; rfl; (repeat (first | assumption | exact Cl.blk rfl | apply Cl.cons))) | ((with_reducible apply wl_b2s); assumption; rfl; (repeat (first | assumption | exact Rd.own | exact Rd.nil | apply Rd.cons)); first | rfl | (simp [B8_app]))) | fail)
            have v2 := fun (w' : World) (h : Sat w0 w' (own 5 1 A8 c8 y.length (B8 y) :: L)) => conv_b2s (P := Try.prog) (S := 22) (D := 9) (c := c8) Rd.own h
            go_region_held (fun w' => Sat w0 w' (own 5 1 A8 c8 y.length (B8 y) :: L)) (first | assumption | (apply Sat.drew; assumption) | (apply Sat.pick; assumption; (repeat (first | exact Pick.nil _ | exact Pick.tail _ | exact Out.here _ | apply Out.there | apply Pick.cons | apply Pick.drop))) | (refine Sat.pick hs8.drew ?_; (repeat (first | exact Pick.nil _ | exact Pick.tail _ | exact Out.here _ | apply Out.there | apply Pick.cons | apply Pick.drop)))) (first | (go_at_call 31; refine (hQ (hs8.drew.pick (T := RR br q e r :: br :: own 5 1 A8 c8 y.length (B8 y) :: Rd1 bx p e2 r2 :: bx :: L) (by (repeat (first | exact Pick.nil _ | exact Pick.tail _ | exact Out.here _ | apply Out.there | apply Pick.cons | apply Pick.drop))))).mono ?_; rintro e' w9 ⟨A9, c9, rfl, hs9⟩; have hv9 := conv_b2s (P := Try.prog) (S := 22) (D := 9) (c := c9) Rd.own hs9) | fail)
            go_wp2_with fail
            have hs10 : Sat w0 w9 (own 5 1 A8 c8 y.length (B8 y) :: Rd1 bx p e2 r2 :: bx :: RR br q e2 r2 :: br :: L) := hs9.pick (by (repeat (first | exact Pick.nil _ | exact Pick.tail _ | exact Out.here _ | apply Out.there | apply Pick.cons | apply Pick.drop)))
            clear hs9 hv9 v2 hQ hB hs8 hcb
            go_loopw [11] (fun i wr => ∃ (j : Nat) (ys : List UInt8), i = .int .i64 j ∧ j ≤ y.length ∧ ys.length = y.length ∧ Sat w0 wr (own 5 1 A8 c8 y.length (B8 ys) :: Rd1 bx p e2 r2 :: bx :: RR br q e2 r2 :: br :: L)) (fun i _ => y.length - (intOf i).toNat)
            case atStart => exact ⟨0, y, rfl, Nat.zero_le _, rfl, hs10⟩
            case round =>
              obtain ⟨j, ys, rfl, hj, hys, hs11⟩ := hrel
              clear hs10
              by_cases hjl : j < y.length
              · obtain ⟨g8, rfl⟩ := hs11.own_some (by omega)
                have hcap := hs11.own_cap
                have Hys : Hid (ys.length = y.length) := hys
                clear hys
                go_wp2_with (first | ((with_reducible apply wl_unguard); rfl) | ((with_reducible apply wl_buildSlice); assumption; rfl; (go_simp; rfl); (simp [Value.cells]); omega; intro b w1 hs1) | ((with_reducible apply wl_append); go_must (assumption; rfl; rfl; (repeat (first | exact Out.here _ | apply Out.there)); (repeat (first | assumption | exact Rd.own | exact Rd.nil | apply Rd.cons)); (first | exact B8_one _ | exact I8_one _ | (simp [Value.oneCell'])); (first | omega | (simp only [maxLen]; omega)); omega; intro A1 c1 w1 hs1 hc1; (try ((refine hs1.own_elim ?_ ?_); omega; rintro g1 rfl)); try simp only [Nat.zero_add, List.nil_append] at hs1 hc1)) | ((with_reducible apply wl_store_own); assumption; rfl; (go_simp; rfl); (repeat (first | exact Out.here _ | apply Out.there)); rfl; rfl; omega; intro w1 hs1) | ((with_reducible apply wl_store1); assumption; rfl; (go_simp; rfl); (repeat (first | exact Out.here _ | apply Out.there)); rfl; rfl; simp; intro w1 hs1; (try simp only [List.setIfInBounds_toArray] at hs1); (try simp only [List.set_cons_succ] at hs1); (try simp only [List.set_cons_zero] at hs1)) | ((with_reducible apply wl_load); assumption; rfl; (repeat (first | assumption | exact Cl.blk rfl | apply Cl.cons))) | ((with_reducible apply wl_b2s); assumption; rfl; (repeat (first | assumption | exact Rd.own | exact Rd.nil | apply Rd.cons)); first | rfl | (simp [B8_app])))
                go_roundw
                case rel =>
                  refine ⟨j + 1, ys.set j 0, by go_num, by omega, by simp [Hys.out], hs1.pick ?_⟩
                  rw [show B8 (ys.set j 0) = (B8 ys).set j (.int .u8 0) from by simp only [B8, List.map_set]; rfl]
                  (repeat (first | exact Pick.nil _ | exact Pick.tail _ | exact Out.here _ | apply Out.there | apply Pick.cons | apply Pick.drop))
                case measure => simp [intOf]; omega
              · have hsT := hs11.tail
                clear hs11 hys
                go_wp2_with fail
                have q2 : ∀ w', Sat w0 w' (Rd1 bx p e2 r2 :: bx :: RR br q e2 r2 :: br :: L) → w'.cell? ⟨q, 2, none⟩ = some (.int .i64 e2) := RR.err.cons.cons
                go_region_held (fun w' => Sat w0 w' (Rd1 bx p e2 r2 :: bx :: RR br q e2 r2 :: br :: L)) (first | assumption | (apply Sat.drew; assumption) | (apply Sat.drew; apply Sat.pick; assumption; (repeat (first | exact Pick.nil _ | exact Pick.tail _ | exact Out.here _ | apply Out.there | apply Pick.cons | apply Pick.drop))) | (apply Sat.pick; assumption; (repeat (first | exact Pick.nil _ | exact Pick.tail _ | exact Out.here _ | apply Out.there | apply Pick.cons | apply Pick.drop)))) (first | (go_at_call 15; refine (errnum_spec _).mono ?_; rintro e' w' ⟨rfl, rfl⟩) | (go_at_call 25; refine (left_spec (by assumption)).mono ?_; rintro e' w' ⟨rfl, rfl⟩) | (go_at_call 27; refine (err_spec (by assumption)).mono ?_; rintro e' w' ⟨rfl, rfl⟩) | (go_at_call 28; refine (end_spec (by assumption)).mono ?_; rintro e' w' ⟨rfl, rfl⟩) | (go_at_call 33; refine (refLeftR (Sat.pick (T := (RR br q e2 r2 :: br :: Rd1 bx p e2 r2 :: bx :: L)) (by assumption) (by (repeat (first | exact Pick.nil _ | exact Pick.tail _ | exact Out.here _ | apply Out.there | apply Pick.cons | apply Pick.drop))))).mono ?_; rintro e' w12 ⟨rfl, hs12⟩) | (go_at_call 34; refine (refEnd_spec (Sat.pick (T := (RR br q e2 r2 :: br :: Rd1 bx p e2 r2 :: bx :: L)) (by assumption) (by (repeat (first | exact Pick.nil _ | exact Pick.tail _ | exact Out.here _ | apply Out.there | apply Pick.cons | apply Pick.drop))))).mono ?_; rintro e' w13 ⟨rfl, hs13⟩) | fail)
                all_goals go_wp2_with fail
                all_goals go_roundw
                all_goals first
                  | (case rel => exact ⟨k + 1, e2, r2, by go_num, by omega, by omega, by assumption⟩)
                  | (case measure => simp [intOf]; omega)
          | false =>
            obtain ⟨⟨y, e2, r2⟩, hy⟩ : ∃ x, rdNumber e r = x := ⟨_, rfl⟩
            obtain ⟨_, _, hr2, _⟩ := rdNumber_ok hy
            have hB := number_read e r (by omega) hs7
            rw [hy] at hB
            have hQ : ∀ {w : World} {L : List HP}, Sat w0 w (RR br q e r :: br :: L) → Calls Try.prog 32 #[.pointer (some ⟨q, 0, none⟩)] w (fun r' w' => r' = .returned (.int .i64 y) ∧ Sat w0 w' (RR br q e2 r2 :: br :: L)) := fun hs => by
              have := refNumberR e r hs
              rwa [hy] at this
            clear hy
            go_wp2_with (first | (go_at_call 24; refine hB.mono ?_; rintro e' w8 ⟨rfl, hs8⟩) | (go_at_call 32; refine (hQ (hs8.pick (T := RR br q e r :: br :: Rd1 bx p e2 r2 :: bx :: L) (by (repeat (first | exact Pick.nil _ | exact Pick.tail _ | exact Out.here _ | apply Out.there | apply Pick.cons | apply Pick.drop))))).mono ?_; rintro e' w9 ⟨rfl, hs9⟩) | (first | ((with_reducible apply wl_unguard); rfl) | ((with_reducible apply wl_buildSlice); assumption; rfl; (go_simp; rfl); (simp [Value.cells]); omega; intro b w1 hs1) | ((with_reducible apply wl_append); go_must (assumption; rfl; rfl; (repeat (first | exact Out.here _ | apply Out.there)); (repeat (first | assumption | exact Rd.own | exact Rd.nil | apply Rd.cons)); (first | exact B8_one _ | exact I8_one _ | (simp [Value.oneCell'])); (first | omega | (simp only [maxLen]; omega)); omega; intro A1 c1 w1 hs1 hc1; (try ((refine hs1.own_elim ?_ ?_); omega; rintro g1 rfl)); try simp only [Nat.zero_add, List.nil_append] at hs1 hc1)) | ((with_reducible apply wl_store_own); assumption; rfl; (go_simp; rfl); (repeat (first | exact Out.here _ | apply Out.there)); rfl; rfl; omega; intro w1 hs1) | ((with_reducible apply wl_store1); assumption; rfl; (go_simp; rfl); (repeat (first | exact Out.here _ | apply Out.there)); rfl; rfl; simp; intro w1 hs1; (try simp only [List.setIfInBounds_toArray] at hs1); (try simp only [List.set_cons_succ] at hs1); (try simp only [List.set_cons_zero] at hs1)) | ((with_reducible apply wl_load); assumption; rfl; (repeat (first | assumption | exact Cl.blk rfl | apply Cl.cons))) | ((with_reducible apply wl_b2s); assumption; rfl; (repeat (first | assumption | exact Rd.own | exact Rd.nil | apply Rd.cons)); first | rfl | (simp [B8_app]))) | fail)
            have hsT : Sat w0 w9 (Rd1 bx p e2 r2 :: bx :: RR br q e2 r2 :: br :: L) := hs9.pick (by (repeat (first | exact Pick.nil _ | exact Pick.tail _ | exact Out.here _ | apply Out.there | apply Pick.cons | apply Pick.drop)))
            clear hs9 hs8 hQ hB hcb
            go_wp2_with fail
            have q2 : ∀ w', Sat w0 w' (Rd1 bx p e2 r2 :: bx :: RR br q e2 r2 :: br :: L) → w'.cell? ⟨q, 2, none⟩ = some (.int .i64 e2) := RR.err.cons.cons
            go_region_held (fun w' => Sat w0 w' (Rd1 bx p e2 r2 :: bx :: RR br q e2 r2 :: br :: L)) (first | assumption | (apply Sat.drew; assumption) | (apply Sat.drew; apply Sat.pick; assumption; (repeat (first | exact Pick.nil _ | exact Pick.tail _ | exact Out.here _ | apply Out.there | apply Pick.cons | apply Pick.drop))) | (apply Sat.pick; assumption; (repeat (first | exact Pick.nil _ | exact Pick.tail _ | exact Out.here _ | apply Out.there | apply Pick.cons | apply Pick.drop)))) (first | (go_at_call 15; refine (errnum_spec _).mono ?_; rintro e' w' ⟨rfl, rfl⟩) | (go_at_call 25; refine (left_spec (by assumption)).mono ?_; rintro e' w' ⟨rfl, rfl⟩) | (go_at_call 27; refine (err_spec (by assumption)).mono ?_; rintro e' w' ⟨rfl, rfl⟩) | (go_at_call 28; refine (end_spec (by assumption)).mono ?_; rintro e' w' ⟨rfl, rfl⟩) | (go_at_call 33; refine (refLeftR (Sat.pick (T := (RR br q e2 r2 :: br :: Rd1 bx p e2 r2 :: bx :: L)) (by assumption) (by (repeat (first | exact Pick.nil _ | exact Pick.tail _ | exact Out.here _ | apply Out.there | apply Pick.cons | apply Pick.drop))))).mono ?_; rintro e' w12 ⟨rfl, hs12⟩) | (go_at_call 34; refine (refEnd_spec (Sat.pick (T := (RR br q e2 r2 :: br :: Rd1 bx p e2 r2 :: bx :: L)) (by assumption) (by (repeat (first | exact Pick.nil _ | exact Pick.tail _ | exact Out.here _ | apply Out.there | apply Pick.cons | apply Pick.drop))))).mono ?_; rintro e' w13 ⟨rfl, hs13⟩) | fail)
            all_goals go_wp2_with fail
            all_goals go_roundw
            all_goals first
              | (case rel => exact ⟨k + 1, e2, r2, by go_num, by omega, by omega, by assumption⟩)
              | (case measure => simp [intOf]; omega)
        · clear hR hRb
          go_wp2_with (first | ((with_reducible apply wl_unguard); rfl) | ((with_reducible apply wl_buildSlice); assumption; rfl; (go_simp; rfl); (simp [Value.cells]); omega; intro b w1 hs1) | ((with_reducible apply wl_append); go_must (assumption; rfl; rfl; (repeat (first | exact Out.here _ | apply Out.there)); (repeat (first | assumption | exact Rd.own | exact Rd.nil | apply Rd.cons)); (first | exact B8_one _ | exact I8_one _ | (simp [Value.oneCell'])); (first | omega | (simp only [maxLen]; omega)); omega; intro A1 c1 w1 hs1 hc1; (try ((refine hs1.own_elim ?_ ?_); omega; rintro g1 rfl)); try simp only [Nat.zero_add, List.nil_append] at hs1 hc1)) | ((with_reducible apply wl_store_own); assumption; rfl; (go_simp; rfl); (repeat (first | exact Out.here _ | apply Out.there)); rfl; rfl; omega; intro w1 hs1) | ((with_reducible apply wl_store1); assumption; rfl; (go_simp; rfl); (repeat (first | exact Out.here _ | apply Out.there)); rfl; rfl; simp; intro w1 hs1; (try simp only [List.setIfInBounds_toArray] at hs1); (try simp only [List.set_cons_succ] at hs1); (try simp only [List.set_cons_zero] at hs1)) | ((with_reducible apply wl_load); assumption; rfl; (repeat (first | assumption | exact Cl.blk rfl | apply Cl.cons))) | ((with_reducible apply wl_b2s); assumption; rfl; (repeat (first | assumption | exact Rd.own | exact Rd.nil | apply Rd.cons)); first | rfl | (simp [B8_app])))
          go_ret
          exact ⟨rfl, hs7.tail.tail.tail.tail⟩
end Go.Proofs.Ytaenimnjaekmmaa

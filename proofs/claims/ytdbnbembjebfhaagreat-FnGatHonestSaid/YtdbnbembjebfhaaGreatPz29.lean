/-
  Texts joined: DrawS.
-/
import Derived.Test.YtdbnbembjebfhaaGreatPz28
namespace Go.Proofs.YtdbnbembjebfhaaGreat
set_option maxRecDepth 100000
set_option linter.unusedSimpArgs false
set_option linter.unusedVariables false
open Go.RowKit Go
set_option maxHeartbeats 4000000

theorem kf_trans {lo : Nat} {a b c : World} (h : KF lo a b) (k : KF lo b c) : KF lo a c :=
  ⟨Nat.le_trans h.size k.size, fun x hx hl => (k.block x hx (Nat.lt_of_lt_of_le hl h.size)).trans (h.block x hx hl)⟩
/-- A row in block g. -/
structure RAt (w : World) (g : Nat) (a b : Int) (c : Bool) : Prop where
  lt : g < w.heap.size
  c0 : w.cell? ⟨g, 0, none⟩ = some (.int .i64 a)
  c1 : w.cell? ⟨g, 1, none⟩ = some (.int .i64 b)
  c2 : w.cell? ⟨g, 2, none⟩ = some (.bool c)
  free : ∀ i, w.frozen? ⟨g, i, none⟩ = false
/-- What is drawn so far: the gate in its box, the entries, the results' boxes, the reader. -/
structure GS (w wx : World) (rb gg : Nat) (t1 t2 t3 : Int) (B : Option Addr) (k e : Nat) (ys : List Int) (P : Nat) : Prop where
  gate : GAt wx gg t1 t2 t3 B k e
  done : RI wx (rb + 1) B e k ys
  r4 : Lb wx w.heap.size 4
  r3 : Lb wx (w.heap.size + 1) 3
  rd : Rdp wx rb P
  ch : Ch (· = rb) w wx
/-- The same, with the row in its box; what was made before lies in Wb. -/
structure GS3 (w Wb wx : World) (rb gg gb : Nat) (t1 t2 t3 : Int) (B : Option Addr) (k e : Nat) (r1 r2 : Int) (r3 : Bool) (P : Nat) : Prop where
  gate : GAt wx gg t1 t2 t3 B k e
  row : RAt wx gb r1 r2 r3
  kf : KF (rb + 1) Wb wx
  r4 : Lb wx w.heap.size 4
  r3' : Lb wx (w.heap.size + 1) 3
  rd : Rdp wx rb P
  ch : Ch (· = rb) w wx
theorem drawGatShow_c (A0 : Option Addr) (c0 n0 : Nat) (bs : List Int) (w : World) (hxs : RB w 0 A0 c0 n0 bs) (hq : ∀ x ∈ bs, 0 ≤ x ∧ x ≤ 255) : Calls Tryz.prog 7 #[.slice A0 n0 c0] w fun E w' => ∃ (t1 : Int) (t2 : Int) (t3 : Int) (B : Option Addr) (d m : Nat) (xs : List Int) (t : Nat) (who : Int) (r1 : Int) (r2 : Int) (r3 : Bool) (D : Option Addr) (e k : Nat) (ps : List Int), E = .returned (.tuple #[.agg #[.int .i64 t1, .int .i64 t2, .int .i64 t3, .slice B m d], .int .i64 t, .int .i64 who, .agg #[.int .i64 r1, .int .i64 r2, .bool r3], .slice D k e]) ∧ (RI w' 0 B d m xs ∧ RI w' 0 D e k ps ∧ t < 8) ∧ Ex w w' := by
  go_enter Tryz.func7, Tryz.ntmps7
  go_wp2_with fail
  apply Calls.mono
  apply l20Open_c
  · apply Rs.at0 hxs; (exact kf_)
  · exact hq
  rintro E w1 ⟨rb, rfl, hrd, hrb, hb⟩
  have hst := xr hb; (try simp only [zA, zC, zD, zN] at hst); obtain ⟨hc, hf, hz⟩ := hst
  have hlt := hrd.lt
  have hrb0 : w.heap.size + 2 ≤ rb := sz_
  go_upto_region 4 with (first | (go_at_call 32; apply Calls.mono; apply l20Log_c; (apply Rdp.keep; assumption; (exact kb_)); (first | assumption | omega); (first | assumption | omega); (first | assumption | omega); rintro E w1 ⟨A, c, m, xs, rfl, hes, hm, hrd, hb⟩; have hst := xc hb; (try simp only [zA, zC, zD, zN] at hst); obtain ⟨hc, hf, hz⟩ := hst) | (go_at_call 34; apply Calls.mono; apply l21Gate_c; (apply Rdp.keep; assumption; (exact kb_)); (apply Rs.less; (first | (apply Rs.keep; assumption; (exact kf_)) | (apply Rs.keep; apply Ow.rs; assumption; (exact kf_))); (first | omega | (simp only [zA, zC, zD, zN]; omega))); (first | assumption | omega); (first | assumption | omega); (first | assumption | omega); (first | assumption | omega); rintro E w1 ⟨a, b, d, B, e, k, ys, rfl, hys, hk, hrd, hb⟩; have hst := xc hb; (try simp only [zA, zC, zD, zN] at hst); obtain ⟨hc, hf, hz⟩ := hst))
  obtain ⟨t1, rfl⟩ : ∃ x, x = a := ⟨_, rfl⟩
  obtain ⟨t2, rfl⟩ : ∃ x, x = b := ⟨_, rfl⟩
  obtain ⟨t3, rfl⟩ : ∃ x, x = d := ⟨_, rfl⟩
  (refine wp_name ?_; intro W0 hb0; have hst := xr hb0; (try simp only [zA, zC, zD, zN] at hst); obtain ⟨hc0, hf0, hz0⟩ := hst)
  obtain ⟨gg, hgg⟩ : ∃ g, g = w1.heap.size := ⟨_, rfl⟩
  have hgg0 : rb < gg := by rw [hgg]; exact hrd.lt
  have HG : GS w W0 rb gg t1 t2 t3 B k e ys 1000 := ⟨by rw [hgg]; exact ⟨sz_, by (go_simp; first | done | simp [*]), by (go_simp; first | done | simp [*]), by (go_simp; first | done | simp [*]), by (go_simp; first | done | simp [*]), fun i => by (go_simp; first | done | simp [*])⟩, (hys.keep kf_).less sz_, by (repeat (first | with_reducible assumption | with_reducible exact Lb.new (by first | rfl | (simp only [zA, zC, zD, zN]; done)) (by with_unfolding_all rfl) | with_reducible apply Lb.alloc | with_reducible apply Lb.set | with_reducible apply Lb.drew | (with_reducible refine Lb.ex ?_ (by assumption)) | (refine Lb.chk (S := fun k => k = rb) (by with_reducible assumption) ?_ (by show ¬ _ = rb; omega)))), by (repeat (first | with_reducible assumption | with_reducible exact Lb.new (by first | rfl | (simp only [zA, zC, zD, zN]; done)) (by with_unfolding_all rfl) | with_reducible apply Lb.alloc | with_reducible apply Lb.set | with_reducible apply Lb.drew | (with_reducible refine Lb.ex ?_ (by assumption)) | (refine Lb.chk (S := fun k => k = rb) (by with_reducible assumption) ?_ (by show ¬ _ = rb; omega)))), Rdp.more (Rdp.keep hrd kb_) (by omega), ext_⟩
  have hes1 : RE W0 (rb + 1) A c m xs := (hes.keep kf_).less sz_
  rw [← hgg]
  clear hgg hrd hb hc hf hz hb0 hc0 hf0 hz0 hes hys
  ((repeat (rename Ch _ _ _ => zz; clear zz)); (repeat (rename Rdp _ _ _ => zz; clear zz)); (repeat (rename (∀ (b o : Nat), ¬ ((⟨b, 0, none⟩ : Addr) = ⟨b - _ + _, 0, none⟩) → _) => zz; clear zz)))
  obtain ⟨⟨l0, k0, k1, k2, k3, kf⟩, hys1, hR4, hR3, hrd, hb⟩ := HG
  go_upto_region 6 with (go_at_call 35; apply Calls.mono; apply (pickN_c (N := 8)); (apply Rdp.keep; assumption; (exact kb_)); omega; rfl; decide; rintro E w8 ⟨t, rfl, ht, hrd, hb⟩; (have hst := xc hb; (try simp only [zA, zC, zD, zN] at hst); obtain ⟨hc, hf, hz⟩ := hst))
  go_cut [40] (fun u wx => ∃ bb : Bool, u = .bool bb ∧ (bb = false → 0 ≤ t1 ∧ t1 ≤ m) ∧ GS w wx rb gg t1 t2 t3 B k e ys 1010 ∧ RE wx (rb + 1) A c m xs)
  case first =>
    by_cases h1 : t1 < 0
    · go_wp2_with (go_at_call 36; apply Calls.mono; apply odd_c; (apply Rdp.keep; assumption; (exact kb_)); (first | assumption | omega); (first | assumption | omega); (first | assumption | omega); rintro E w1 ⟨b, rfl, hrd, hb⟩; have hst := xc hb; (try simp only [zA, zC, zD, zN] at hst); obtain ⟨hc, hf, hz⟩ := hst)
      all_goals go_meet
      all_goals exact ⟨_, rfl, by simp, ⟨⟨sz_, by (go_simp; first | done | simp [*]), by (go_simp; first | done | simp [*]), by (go_simp; first | done | simp [*]), by (go_simp; first | done | simp [*]), fun i => by (go_simp; first | done | simp [*])⟩, hys1.keep kf_, by (repeat (first | with_reducible assumption | with_reducible exact Lb.new (by first | rfl | (simp only [zA, zC, zD, zN]; done)) (by with_unfolding_all rfl) | with_reducible apply Lb.alloc | with_reducible apply Lb.set | with_reducible apply Lb.drew | (with_reducible refine Lb.ex ?_ (by assumption)) | (refine Lb.chk (S := fun k => k = rb) (by with_reducible assumption) ?_ (by show ¬ _ = rb; omega)))), by (repeat (first | with_reducible assumption | with_reducible exact Lb.new (by first | rfl | (simp only [zA, zC, zD, zN]; done)) (by with_unfolding_all rfl) | with_reducible apply Lb.alloc | with_reducible apply Lb.set | with_reducible apply Lb.drew | (with_reducible refine Lb.ex ?_ (by assumption)) | (refine Lb.chk (S := fun k => k = rb) (by with_reducible assumption) ?_ (by show ¬ _ = rb; omega)))), (Rdp.keep hrd (by (exact kb_))).more (by omega), ext_⟩, hes1.keep kf_⟩
    · by_cases h2 : (m : Int) < t1
      · go_wp2_with (go_at_call 36; apply Calls.mono; apply odd_c; (apply Rdp.keep; assumption; (exact kb_)); (first | assumption | omega); (first | assumption | omega); (first | assumption | omega); rintro E w1 ⟨b, rfl, hrd, hb⟩; have hst := xc hb; (try simp only [zA, zC, zD, zN] at hst); obtain ⟨hc, hf, hz⟩ := hst)
        all_goals go_meet
        all_goals exact ⟨_, rfl, by simp, ⟨⟨sz_, by (go_simp; first | done | simp [*]), by (go_simp; first | done | simp [*]), by (go_simp; first | done | simp [*]), by (go_simp; first | done | simp [*]), fun i => by (go_simp; first | done | simp [*])⟩, hys1.keep kf_, by (repeat (first | with_reducible assumption | with_reducible exact Lb.new (by first | rfl | (simp only [zA, zC, zD, zN]; done)) (by with_unfolding_all rfl) | with_reducible apply Lb.alloc | with_reducible apply Lb.set | with_reducible apply Lb.drew | (with_reducible refine Lb.ex ?_ (by assumption)) | (refine Lb.chk (S := fun k => k = rb) (by with_reducible assumption) ?_ (by show ¬ _ = rb; omega)))), by (repeat (first | with_reducible assumption | with_reducible exact Lb.new (by first | rfl | (simp only [zA, zC, zD, zN]; done)) (by with_unfolding_all rfl) | with_reducible apply Lb.alloc | with_reducible apply Lb.set | with_reducible apply Lb.drew | (with_reducible refine Lb.ex ?_ (by assumption)) | (refine Lb.chk (S := fun k => k = rb) (by with_reducible assumption) ?_ (by show ¬ _ = rb; omega)))), (Rdp.keep hrd (by (exact kb_))).more (by omega), ext_⟩, hes1.keep kf_⟩
      · go_wp2_with (go_at_call 36; apply Calls.mono; apply odd_c; (apply Rdp.keep; assumption; (exact kb_)); (first | assumption | omega); (first | assumption | omega); (first | assumption | omega); rintro E w1 ⟨b, rfl, hrd, hb⟩; have hst := xc hb; (try simp only [zA, zC, zD, zN] at hst); obtain ⟨hc, hf, hz⟩ := hst)
        all_goals go_meet
        all_goals exact ⟨_, rfl, fun _ => ⟨by omega, by omega⟩, ⟨⟨sz_, by (go_simp; first | done | simp [*]), by (go_simp; first | done | simp [*]), by (go_simp; first | done | simp [*]), by (go_simp; first | done | simp [*]), fun i => by (go_simp; first | done | simp [*])⟩, hys1.keep kf_, by (repeat (first | with_reducible assumption | with_reducible exact Lb.new (by first | rfl | (simp only [zA, zC, zD, zN]; done)) (by with_unfolding_all rfl) | with_reducible apply Lb.alloc | with_reducible apply Lb.set | with_reducible apply Lb.drew | (with_reducible refine Lb.ex ?_ (by assumption)) | (refine Lb.chk (S := fun k => k = rb) (by with_reducible assumption) ?_ (by show ¬ _ = rb; omega)))), by (repeat (first | with_reducible assumption | with_reducible exact Lb.new (by first | rfl | (simp only [zA, zC, zD, zN]; done)) (by with_unfolding_all rfl) | with_reducible apply Lb.alloc | with_reducible apply Lb.set | with_reducible apply Lb.drew | (with_reducible refine Lb.ex ?_ (by assumption)) | (refine Lb.chk (S := fun k => k = rb) (by with_reducible assumption) ?_ (by show ¬ _ = rb; omega)))), (Rdp.keep hrd (by (exact kb_))).more (by omega), ext_⟩, hes1.keep kf_⟩
  case rest =>
    ((repeat (rename Ch _ _ _ => zz; clear zz)); (repeat (rename Rdp _ _ _ => zz; clear zz)); (repeat (rename (∀ (b o : Nat), ¬ ((⟨b, 0, none⟩ : Addr) = ⟨b - _ + _, 0, none⟩) → _) => zz; clear zz)))
    clear l0 k0 k1 k2 k3 kf hR4 hR3 hys1 hes1
    obtain ⟨bb, rfl, hbb, ⟨⟨l0, k0, k1, k2, k3, kf⟩, hys1, hR4, hR3, hrd, hb⟩, hes1⟩ := hcut
    go_upto_if 40 with fail
    go_cut [11] (fun u wx => ∃ sz : Nat, u = .int .i64 sz ∧ sz ≤ m ∧ GS w wx rb gg t1 t2 t3 B k e ys 1010 ∧ RE wx (rb + 1) A c m xs)
    case first =>
      cases bb
      · obtain ⟨q1, q2⟩ := hbb rfl
        go_wp2_with fail
        go_meet
        exact ⟨t1.toNat, by rw [Int.toNat_of_nonneg q1], by omega, ⟨⟨sz_, by (go_simp; first | done | simp [*]), by (go_simp; first | done | simp [*]), by (go_simp; first | done | simp [*]), by (go_simp; first | done | simp [*]), fun i => by (go_simp; first | done | simp [*])⟩, hys1.keep kf_, by (repeat (first | with_reducible assumption | with_reducible exact Lb.new (by first | rfl | (simp only [zA, zC, zD, zN]; done)) (by with_unfolding_all rfl) | with_reducible apply Lb.alloc | with_reducible apply Lb.set | with_reducible apply Lb.drew | (with_reducible refine Lb.ex ?_ (by assumption)) | (refine Lb.chk (S := fun k => k = rb) (by with_reducible assumption) ?_ (by show ¬ _ = rb; omega)))), by (repeat (first | with_reducible assumption | with_reducible exact Lb.new (by first | rfl | (simp only [zA, zC, zD, zN]; done)) (by with_unfolding_all rfl) | with_reducible apply Lb.alloc | with_reducible apply Lb.set | with_reducible apply Lb.drew | (with_reducible refine Lb.ex ?_ (by assumption)) | (refine Lb.chk (S := fun k => k = rb) (by with_reducible assumption) ?_ (by show ¬ _ = rb; omega)))), (Rdp.keep hrd (by (exact kb_))).more (by omega), ext_⟩, hes1.keep kf_⟩
      · go_wp2_with fail
        go_meet
        exact ⟨m, rfl, Nat.le_refl _, ⟨⟨sz_, by (go_simp; first | done | simp [*]), by (go_simp; first | done | simp [*]), by (go_simp; first | done | simp [*]), by (go_simp; first | done | simp [*]), fun i => by (go_simp; first | done | simp [*])⟩, hys1.keep kf_, by (repeat (first | with_reducible assumption | with_reducible exact Lb.new (by first | rfl | (simp only [zA, zC, zD, zN]; done)) (by with_unfolding_all rfl) | with_reducible apply Lb.alloc | with_reducible apply Lb.set | with_reducible apply Lb.drew | (with_reducible refine Lb.ex ?_ (by assumption)) | (refine Lb.chk (S := fun k => k = rb) (by with_reducible assumption) ?_ (by show ¬ _ = rb; omega)))), by (repeat (first | with_reducible assumption | with_reducible exact Lb.new (by first | rfl | (simp only [zA, zC, zD, zN]; done)) (by with_unfolding_all rfl) | with_reducible apply Lb.alloc | with_reducible apply Lb.set | with_reducible apply Lb.drew | (with_reducible refine Lb.ex ?_ (by assumption)) | (refine Lb.chk (S := fun k => k = rb) (by with_reducible assumption) ?_ (by show ¬ _ = rb; omega)))), (Rdp.keep hrd (by (exact kb_))).more (by omega), ext_⟩, hes1.keep kf_⟩
    case rest =>
    ((repeat (rename Ch _ _ _ => zz; clear zz)); (repeat (rename Rdp _ _ _ => zz; clear zz)); (repeat (rename (∀ (b o : Nat), ¬ ((⟨b, 0, none⟩ : Addr) = ⟨b - _ + _, 0, none⟩) → _) => zz; clear zz)))
    clear l0 k0 k1 k2 k3 kf hR4 hR3 hys1 hes1 hbb
    obtain ⟨sz, rfl, hsz, ⟨⟨l0, k0, k1, k2, k3, kf⟩, hys1, hR4, hR3, hrd, hb⟩, hes1⟩ := hcut
    have hcap := hes1.2.le
    have z0 : (sz : Int) ≤ c := by omega
    have z1 : (0 : Int) ≤ sz := by omega
    have htk := Rs.take hes1 (fun _ => rfl) hsz
    go_upto_if 51 with (go_at_call 37; apply Calls.mono; apply (sOwnFold_c (xs := xs.take sz)); (exact Rs.at0 htk kf_); rintro E w9 ⟨Ra, Rac, Ran, rfl, hor, hb⟩; obtain ⟨bo, hbo⟩ : ∃ bo, bo = (Sw.ownFold (xs.take sz)).isSome := ⟨_, rfl⟩; rw [← hbo]; have HBO := Lib.hid hbo; clear hbo; have hst := xr hb; (try simp only [zA, zC, zD, zN] at hst); obtain ⟨hc, hf, hz⟩ := hst)
    go_cut [12] (fun u wx => ∃ (R : Option Addr) (Rc : Nat) (rws : List Sw.Row), u = .slice R 8 Rc ∧ RR wx (rb + 1) R Rc 8 rws ∧ GS w wx rb gg t1 t2 t3 B k e ys 1010)
    case first =>
      cases bo
      · go_wp2_with (go_at_call 38; refine (sNew_c _).mono ?_; rintro E w1 ⟨An, rfl, hnw, hb⟩; have hst := xr hb; (try simp only [zA, zC, zD, zN] at hst); obtain ⟨hc, hf, hz⟩ := hst)
        go_meet
        exact ⟨_, 8, Sw.rows0, rfl, (hnw.rs.keep kf_).less sz_, ⟨⟨sz_, by (go_simp; first | done | simp [*]), by (go_simp; first | done | simp [*]), by (go_simp; first | done | simp [*]), by (go_simp; first | done | simp [*]), fun i => by (go_simp; first | done | simp [*])⟩, hys1.keep kf_, by (repeat (first | with_reducible assumption | with_reducible exact Lb.new (by first | rfl | (simp only [zA, zC, zD, zN]; done)) (by with_unfolding_all rfl) | with_reducible apply Lb.alloc | with_reducible apply Lb.set | with_reducible apply Lb.drew | (with_reducible refine Lb.ex ?_ (by assumption)) | (refine Lb.chk (S := fun k => k = rb) (by with_reducible assumption) ?_ (by show ¬ _ = rb; omega)))), by (repeat (first | with_reducible assumption | with_reducible exact Lb.new (by first | rfl | (simp only [zA, zC, zD, zN]; done)) (by with_unfolding_all rfl) | with_reducible apply Lb.alloc | with_reducible apply Lb.set | with_reducible apply Lb.drew | (with_reducible refine Lb.ex ?_ (by assumption)) | (refine Lb.chk (S := fun k => k = rb) (by with_reducible assumption) ?_ (by show ¬ _ = rb; omega)))), (Rdp.keep hrd (by (exact kb_))).more (by omega), ext_⟩⟩
      · obtain ⟨rws, hf⟩ := Option.isSome_iff_exists.1 HBO.out.symm
        rw [hf] at hor
        have h8 : Ran = 8 := hor.1.trans (Sw.ownOk_len (Sw.ownFold_ok hf))
        subst h8
        clear hf
        go_wp2_with fail
        go_meet
        exact ⟨_, Rac, rws, rfl, (hor.rs.keep kf_).less sz_, ⟨⟨sz_, by (go_simp; first | done | simp [*]), by (go_simp; first | done | simp [*]), by (go_simp; first | done | simp [*]), by (go_simp; first | done | simp [*]), fun i => by (go_simp; first | done | simp [*])⟩, hys1.keep kf_, by (repeat (first | with_reducible assumption | with_reducible exact Lb.new (by first | rfl | (simp only [zA, zC, zD, zN]; done)) (by with_unfolding_all rfl) | with_reducible apply Lb.alloc | with_reducible apply Lb.set | with_reducible apply Lb.drew | (with_reducible refine Lb.ex ?_ (by assumption)) | (refine Lb.chk (S := fun k => k = rb) (by with_reducible assumption) ?_ (by show ¬ _ = rb; omega)))), by (repeat (first | with_reducible assumption | with_reducible exact Lb.new (by first | rfl | (simp only [zA, zC, zD, zN]; done)) (by with_unfolding_all rfl) | with_reducible apply Lb.alloc | with_reducible apply Lb.set | with_reducible apply Lb.drew | (with_reducible refine Lb.ex ?_ (by assumption)) | (refine Lb.chk (S := fun k => k = rb) (by with_reducible assumption) ?_ (by show ¬ _ = rb; omega)))), (Rdp.keep hrd (by (exact kb_))).more (by omega), ext_⟩⟩
    case rest =>
    ((repeat (rename Ch _ _ _ => zz; clear zz)); (repeat (rename Rdp _ _ _ => zz; clear zz)); (repeat (rename (∀ (b o : Nat), ¬ ((⟨b, 0, none⟩ : Addr) = ⟨b - _ + _, 0, none⟩) → _) => zz; clear zz)))
    clear l0 k0 k1 k2 k3 kf hR4 hR3 hys1 hes1 htk hcap z0 z1
    obtain ⟨R, Rc, rws, rfl, hrr, ⟨⟨l0, k0, k1, k2, k3, kf⟩, hys1, hR4, hR3, hrd, hb⟩⟩ := hcut
    obtain ⟨Wb, rfl⟩ : ∃ x, x = wc := ⟨_, rfl⟩
    obtain ⟨gR, oR, y, rfl, hgR0, hgR, -, -, cr0, cr1, cr2⟩ := at_R hrr ht
    have q0 : (0 : Int) ≤ (t : Int) := by omega
    have q1 : (t : Int) < 8 := by omega
    go_upto_region 12 with fail
    (refine wp_name ?_; intro W0 hb0; have hst := xr hb0; (try simp only [zA, zC, zD, zN] at hst); obtain ⟨hc0, hf0, hz0⟩ := hst)
    obtain ⟨gb, hgb⟩ : ∃ g, g = Wb.heap.size := ⟨_, rfl⟩
    have hgb0 : gg < gb := by rw [hgb]; exact l0
    have hgbW : Wb.heap.size ≤ gb := by omega
    have HG : GS3 w Wb W0 rb gg gb t1 t2 t3 B k e y.who y.face y.used 1010 := by
      rw [hgb]
      exact ⟨⟨sz_, by (go_simp; first | done | simp [*]), by (go_simp; first | done | simp [*]), by (go_simp; first | done | simp [*]), by (go_simp; first | done | simp [*]), fun i => by (go_simp; first | done | simp [*])⟩, ⟨sz_, by (go_simp; first | done | simp [*]), by (go_simp; first | done | simp [*]), by (go_simp; first | done | simp [*]), fun i => by (go_simp; first | done | simp [*])⟩, kf_, by (repeat (first | with_reducible assumption | with_reducible exact Lb.new (by first | rfl | (simp only [zA, zC, zD, zN]; done)) (by with_unfolding_all rfl) | with_reducible apply Lb.alloc | with_reducible apply Lb.set | with_reducible apply Lb.drew | (with_reducible refine Lb.ex ?_ (by assumption)) | (refine Lb.chk (S := fun k => k = rb) (by with_reducible assumption) ?_ (by show ¬ _ = rb; omega)))), by (repeat (first | with_reducible assumption | with_reducible exact Lb.new (by first | rfl | (simp only [zA, zC, zD, zN]; done)) (by with_unfolding_all rfl) | with_reducible apply Lb.alloc | with_reducible apply Lb.set | with_reducible apply Lb.drew | (with_reducible refine Lb.ex ?_ (by assumption)) | (refine Lb.chk (S := fun k => k = rb) (by with_reducible assumption) ?_ (by show ¬ _ = rb; omega)))), (Rdp.keep hrd (by (exact kb_))).more (by omega), ext_⟩
    rw [← hgb]
    clear hgb hrd hb hb0 hc0 hf0 hz0 cr0 cr1 cr2 l0 k0 k1 k2 k3 kf hR4 hR3 hgR
    ((repeat (rename Ch _ _ _ => zz; clear zz)); (repeat (rename Rdp _ _ _ => zz; clear zz)); (repeat (rename (∀ (b o : Nat), ¬ ((⟨b, 0, none⟩ : Addr) = ⟨b - _ + _, 0, none⟩) → _) => zz; clear zz)))
    obtain ⟨⟨l0, k0, k1, k2, k3, kf⟩, ⟨m0, j0, j1, j2, jf⟩, hkf, hR4, hR3, hrd, hb⟩ := HG
    obtain ⟨rA, hrA⟩ : ∃ r, r = y.who := ⟨_, rfl⟩
    obtain ⟨rB, hrB⟩ : ∃ r, r = y.face := ⟨_, rfl⟩
    obtain ⟨rC, hrC⟩ : ∃ r, r = y.used := ⟨_, rfl⟩
    rw [← hrA] at j0
    rw [← hrB] at j1
    rw [← hrC] at j2
    clear hrA hrB hrC
    go_upto_if 60 with (go_at_call 36; apply Calls.mono; apply odd_c; (apply Rdp.keep; assumption; (exact kb_)); omega; omega; omega; rintro E w7 ⟨b4, rfl, hrd, hb⟩; (have hst := xc hb; (try simp only [zA, zC, zD, zN] at hst); obtain ⟨hc, hf, hz⟩ := hst))
    go_cut [15] (fun u wx => ∃ who : Int, u = .int .i64 who ∧ GS3 w Wb wx rb gg gb t1 t2 t3 B k e rA rB rC 1030)
    case first =>
      cases b4
      · go_wp2_with fail
        go_meet
        exact ⟨_, rfl, ⟨⟨sz_, by (go_simp; first | done | simp [*]), by (go_simp; first | done | simp [*]), by (go_simp; first | done | simp [*]), by (go_simp; first | done | simp [*]), fun i => by (go_simp; first | done | simp [*])⟩, ⟨sz_, by (go_simp; first | done | simp [*]), by (go_simp; first | done | simp [*]), by (go_simp; first | done | simp [*]), fun i => by (go_simp; first | done | simp [*])⟩, kf_trans hkf kf_, by (repeat (first | with_reducible assumption | with_reducible exact Lb.new (by first | rfl | (simp only [zA, zC, zD, zN]; done)) (by with_unfolding_all rfl) | with_reducible apply Lb.alloc | with_reducible apply Lb.set | with_reducible apply Lb.drew | (with_reducible refine Lb.ex ?_ (by assumption)) | (refine Lb.chk (S := fun k => k = rb) (by with_reducible assumption) ?_ (by show ¬ _ = rb; omega)))), by (repeat (first | with_reducible assumption | with_reducible exact Lb.new (by first | rfl | (simp only [zA, zC, zD, zN]; done)) (by with_unfolding_all rfl) | with_reducible apply Lb.alloc | with_reducible apply Lb.set | with_reducible apply Lb.drew | (with_reducible refine Lb.ex ?_ (by assumption)) | (refine Lb.chk (S := fun k => k = rb) (by with_reducible assumption) ?_ (by show ¬ _ = rb; omega)))), (Rdp.keep hrd (by (exact kb_))).more (by omega), ext_⟩⟩
      · go_wp2_with (go_at_call 35; apply Calls.mono; apply pick_c; (apply Rdp.keep; assumption; (exact kb_)); (first | assumption | omega); (first | assumption | omega); rintro E w1 ⟨v, rfl, ⟨hv0, hv1⟩, hrd, hb⟩; have hst := xc hb; (try simp only [zA, zC, zD, zN] at hst); obtain ⟨hc, hf, hz⟩ := hst)
        go_meet
        exact ⟨_, rfl, ⟨⟨sz_, by (go_simp; first | done | simp [*]), by (go_simp; first | done | simp [*]), by (go_simp; first | done | simp [*]), by (go_simp; first | done | simp [*]), fun i => by (go_simp; first | done | simp [*])⟩, ⟨sz_, by (go_simp; first | done | simp [*]), by (go_simp; first | done | simp [*]), by (go_simp; first | done | simp [*]), fun i => by (go_simp; first | done | simp [*])⟩, kf_trans hkf kf_, by (repeat (first | with_reducible assumption | with_reducible exact Lb.new (by first | rfl | (simp only [zA, zC, zD, zN]; done)) (by with_unfolding_all rfl) | with_reducible apply Lb.alloc | with_reducible apply Lb.set | with_reducible apply Lb.drew | (with_reducible refine Lb.ex ?_ (by assumption)) | (refine Lb.chk (S := fun k => k = rb) (by with_reducible assumption) ?_ (by show ¬ _ = rb; omega)))), by (repeat (first | with_reducible assumption | with_reducible exact Lb.new (by first | rfl | (simp only [zA, zC, zD, zN]; done)) (by with_unfolding_all rfl) | with_reducible apply Lb.alloc | with_reducible apply Lb.set | with_reducible apply Lb.drew | (with_reducible refine Lb.ex ?_ (by assumption)) | (refine Lb.chk (S := fun k => k = rb) (by with_reducible assumption) ?_ (by show ¬ _ = rb; omega)))), (Rdp.keep hrd (by (exact kb_))).more (by omega), ext_⟩⟩
    case rest =>
    ((repeat (rename Ch _ _ _ => zz; clear zz)); (repeat (rename Rdp _ _ _ => zz; clear zz)); (repeat (rename (∀ (b o : Nat), ¬ ((⟨b, 0, none⟩ : Addr) = ⟨b - _ + _, 0, none⟩) → _) => zz; clear zz)))
    clear l0 k0 k1 k2 k3 kf hR4 hR3 m0 j0 j1 j2 jf hkf
    obtain ⟨who, rfl, ⟨⟨l0, k0, k1, k2, k3, kf⟩, ⟨m0, j0, j1, j2, jf⟩, hkf, hR4, hR3, hrd, hb⟩⟩ := hcut
    go_upto_if 64 with (go_at_call 36; apply Calls.mono; apply odd_c; (apply Rdp.keep; assumption; (exact kb_)); omega; omega; omega; rintro E w6 ⟨b6, rfl, hrd, hb⟩; (have hst := xc hb; (try simp only [zA, zC, zD, zN] at hst); obtain ⟨hc, hf, hz⟩ := hst))
    go_cut [] (fun wx => ∃ (r1 r2 : Int) (r3 : Bool), GS3 w Wb wx rb gg gb t1 t2 t3 B k e r1 r2 r3 1060)
    case first =>
      cases b6
      · go_wp2_with fail
        go_meet
        exact ⟨rA, rB, rC, ⟨⟨sz_, by (go_simp; first | done | simp [*]), by (go_simp; first | done | simp [*]), by (go_simp; first | done | simp [*]), by (go_simp; first | done | simp [*]), fun i => by (go_simp; first | done | simp [*])⟩, ⟨sz_, by (go_simp; first | done | simp [*]), by (go_simp; first | done | simp [*]), by (go_simp; first | done | simp [*]), fun i => by (go_simp; first | done | simp [*])⟩, kf_trans hkf kf_, by (repeat (first | with_reducible assumption | with_reducible exact Lb.new (by first | rfl | (simp only [zA, zC, zD, zN]; done)) (by with_unfolding_all rfl) | with_reducible apply Lb.alloc | with_reducible apply Lb.set | with_reducible apply Lb.drew | (with_reducible refine Lb.ex ?_ (by assumption)) | (refine Lb.chk (S := fun k => k = rb) (by with_reducible assumption) ?_ (by show ¬ _ = rb; omega)))), by (repeat (first | with_reducible assumption | with_reducible exact Lb.new (by first | rfl | (simp only [zA, zC, zD, zN]; done)) (by with_unfolding_all rfl) | with_reducible apply Lb.alloc | with_reducible apply Lb.set | with_reducible apply Lb.drew | (with_reducible refine Lb.ex ?_ (by assumption)) | (refine Lb.chk (S := fun k => k = rb) (by with_reducible assumption) ?_ (by show ¬ _ = rb; omega)))), (Rdp.keep hrd (by (exact kb_))).more (by omega), ext_⟩⟩
      · go_wp2_with (go_at_call 39; apply Calls.mono; apply l20Row_c; (apply Rdp.keep; assumption; (exact kb_)); omega; rintro E w5 ⟨ra, rbx, rc, rfl, hrd, hb⟩; (have hst := xc hb; (try simp only [zA, zC, zD, zN] at hst); obtain ⟨hc, hf, hz⟩ := hst))
        go_meet
        exact ⟨ra, rbx, rc, ⟨⟨sz_, by (go_simp; first | done | simp [*]), by (go_simp; first | done | simp [*]), by (go_simp; first | done | simp [*]), by (go_simp; first | done | simp [*]), fun i => by (go_simp; first | done | simp [*])⟩, ⟨sz_, by (go_simp; first | done | simp [*]), by (go_simp; first | done | simp [*]), by (go_simp; first | done | simp [*]), fun i => by (go_simp; first | done | simp [*])⟩, kS (kS (kS (kf_trans hkf kf_) (.inr hgbW)) (.inr hgbW)) (.inr hgbW), by (repeat (first | with_reducible assumption | with_reducible exact Lb.new (by first | rfl | (simp only [zA, zC, zD, zN]; done)) (by with_unfolding_all rfl) | with_reducible apply Lb.alloc | with_reducible apply Lb.set | with_reducible apply Lb.drew | (with_reducible refine Lb.ex ?_ (by assumption)) | (refine Lb.chk (S := fun k => k = rb) (by with_reducible assumption) ?_ (by show ¬ _ = rb; omega)))), by (repeat (first | with_reducible assumption | with_reducible exact Lb.new (by first | rfl | (simp only [zA, zC, zD, zN]; done)) (by with_unfolding_all rfl) | with_reducible apply Lb.alloc | with_reducible apply Lb.set | with_reducible apply Lb.drew | (with_reducible refine Lb.ex ?_ (by assumption)) | (refine Lb.chk (S := fun k => k = rb) (by with_reducible assumption) ?_ (by show ¬ _ = rb; omega)))), (Rdp.keep hrd (by (exact kb_))).more (by omega), ext_⟩⟩
    case rest =>
    ((repeat (rename Ch _ _ _ => zz; clear zz)); (repeat (rename Rdp _ _ _ => zz; clear zz)); (repeat (rename (∀ (b o : Nat), ¬ ((⟨b, 0, none⟩ : Addr) = ⟨b - _ + _, 0, none⟩) → _) => zz; clear zz)))
    clear l0 k0 k1 k2 k3 kf hR4 hR3 m0 j0 j1 j2 jf hkf
    obtain ⟨r1, r2, r3, ⟨⟨l0, k0, k1, k2, k3, kf⟩, ⟨m0, j0, j1, j2, jf⟩, hkf, hR4, hR3, hrd, hb⟩⟩ := hcut
    have hrr1 := hrr.keep hkf
    go_upto_region 18 with (go_at_call 40; apply Calls.mono; apply (sOwnProof_c (xs := rws) (t := (t : Int))); (apply Rs.at0 hrr1; (exact kf_)); omega; rintro E w4 ⟨D, dc, dn, rfl, hop, hb⟩; have hst := xr hb; (try simp only [zA, zC, zD, zN] at hst); obtain ⟨hc, hf, hz⟩ := hst)
    obtain ⟨L0, hL0⟩ : ∃ L, L = wc.heap.size := ⟨_, rfl⟩
    have hlow : gb < L0 := by rw [hL0]; exact m0
    have HL0 := Lib.hid hL0
    clear hL0
    go_cut [76] (fun u wx => ∃ b9 : Bool, u = .bool b9 ∧ (b9 = true → 0 < dn) ∧ OwI wx L0 D dc dn (Sw.ownProof rws t) ∧ GS3 w Wb wx rb gg gb t1 t2 t3 B k e r1 r2 r3 1080)
    case first =>
      by_cases hd0 : 0 < dn
      · have hd1 : (0 : Int) < (dn : Int) := by omega
        go_wp2_with (go_at_call 36; apply Calls.mono; apply odd_c; (apply Rdp.keep; assumption; (exact kb_)); omega; omega; omega; rintro E w3 ⟨b9, rfl, hrd, hb⟩; (have hst := xc hb; (try simp only [zA, zC, zD, zN] at hst); obtain ⟨hc, hf, hz⟩ := hst))
        all_goals go_meet
        all_goals exact ⟨_, rfl, fun _ => hd0, by rw [HL0.out]; exact hop.keep kf_, ⟨⟨sz_, by (go_simp; first | done | simp [*]), by (go_simp; first | done | simp [*]), by (go_simp; first | done | simp [*]), by (go_simp; first | done | simp [*]), fun i => by (go_simp; first | done | simp [*])⟩, ⟨sz_, by (go_simp; first | done | simp [*]), by (go_simp; first | done | simp [*]), by (go_simp; first | done | simp [*]), fun i => by (go_simp; first | done | simp [*])⟩, kf_trans hkf kf_, by (repeat (first | with_reducible assumption | with_reducible exact Lb.new (by first | rfl | (simp only [zA, zC, zD, zN]; done)) (by with_unfolding_all rfl) | with_reducible apply Lb.alloc | with_reducible apply Lb.set | with_reducible apply Lb.drew | (with_reducible refine Lb.ex ?_ (by assumption)) | (refine Lb.chk (S := fun k => k = rb) (by with_reducible assumption) ?_ (by show ¬ _ = rb; omega)))), by (repeat (first | with_reducible assumption | with_reducible exact Lb.new (by first | rfl | (simp only [zA, zC, zD, zN]; done)) (by with_unfolding_all rfl) | with_reducible apply Lb.alloc | with_reducible apply Lb.set | with_reducible apply Lb.drew | (with_reducible refine Lb.ex ?_ (by assumption)) | (refine Lb.chk (S := fun k => k = rb) (by with_reducible assumption) ?_ (by show ¬ _ = rb; omega)))), (Rdp.keep hrd (by (exact kb_))).more (by omega), ext_⟩⟩
      · have hd1 : dn = 0 := by omega
        subst hd1
        go_wp2_with (go_at_call 36; apply Calls.mono; apply odd_c; (apply Rdp.keep; assumption; (exact kb_)); omega; omega; omega; rintro E w3 ⟨b9, rfl, hrd, hb⟩; (have hst := xc hb; (try simp only [zA, zC, zD, zN] at hst); obtain ⟨hc, hf, hz⟩ := hst))
        all_goals go_meet
        all_goals exact ⟨false, rfl, by simp, by rw [HL0.out]; exact hop.keep kf_, ⟨⟨sz_, by (go_simp; first | done | simp [*]), by (go_simp; first | done | simp [*]), by (go_simp; first | done | simp [*]), by (go_simp; first | done | simp [*]), fun i => by (go_simp; first | done | simp [*])⟩, ⟨sz_, by (go_simp; first | done | simp [*]), by (go_simp; first | done | simp [*]), by (go_simp; first | done | simp [*]), fun i => by (go_simp; first | done | simp [*])⟩, kf_trans hkf kf_, by (repeat (first | with_reducible assumption | with_reducible exact Lb.new (by first | rfl | (simp only [zA, zC, zD, zN]; done)) (by with_unfolding_all rfl) | with_reducible apply Lb.alloc | with_reducible apply Lb.set | with_reducible apply Lb.drew | (with_reducible refine Lb.ex ?_ (by assumption)) | (refine Lb.chk (S := fun k => k = rb) (by with_reducible assumption) ?_ (by show ¬ _ = rb; omega)))), by (repeat (first | with_reducible assumption | with_reducible exact Lb.new (by first | rfl | (simp only [zA, zC, zD, zN]; done)) (by with_unfolding_all rfl) | with_reducible apply Lb.alloc | with_reducible apply Lb.set | with_reducible apply Lb.drew | (with_reducible refine Lb.ex ?_ (by assumption)) | (refine Lb.chk (S := fun k => k = rb) (by with_reducible assumption) ?_ (by show ¬ _ = rb; omega)))), (Rdp.keep hrd (by (exact kb_))).more (by omega), ext_⟩⟩
    case rest =>
    ((repeat (rename Ch _ _ _ => zz; clear zz)); (repeat (rename Rdp _ _ _ => zz; clear zz)); (repeat (rename (∀ (b o : Nat), ¬ ((⟨b, 0, none⟩ : Addr) = ⟨b - _ + _, 0, none⟩) → _) => zz; clear zz)))
    clear l0 k0 k1 k2 k3 kf hR4 hR3 m0 j0 j1 j2 jf hop hkf HL0
    obtain ⟨b9, rfl, hb9, hop, ⟨⟨l0, k0, k1, k2, k3, kf⟩, ⟨m0, j0, j1, j2, jf⟩, hkf, hR4, hR3, hrd, hb⟩⟩ := hcut
    go_upto_if 76 with fail
    go_cut [] (fun wx => ∃ ps : List Int, RI wx (rb + 1) D dc dn ps ∧ GS3 w Wb wx rb gg gb t1 t2 t3 B k e r1 r2 r3 1090)
    case first =>
      cases b9
      · go_wp2_with fail
        go_meet
        exact ⟨_, (hop.rs.keep kf_).less (by omega), ⟨⟨sz_, by (go_simp; first | done | simp [*]), by (go_simp; first | done | simp [*]), by (go_simp; first | done | simp [*]), by (go_simp; first | done | simp [*]), fun i => by (go_simp; first | done | simp [*])⟩, ⟨sz_, by (go_simp; first | done | simp [*]), by (go_simp; first | done | simp [*]), by (go_simp; first | done | simp [*]), fun i => by (go_simp; first | done | simp [*])⟩, kf_trans hkf kf_, by (repeat (first | with_reducible assumption | with_reducible exact Lb.new (by first | rfl | (simp only [zA, zC, zD, zN]; done)) (by with_unfolding_all rfl) | with_reducible apply Lb.alloc | with_reducible apply Lb.set | with_reducible apply Lb.drew | (with_reducible refine Lb.ex ?_ (by assumption)) | (refine Lb.chk (S := fun k => k = rb) (by with_reducible assumption) ?_ (by show ¬ _ = rb; omega)))), by (repeat (first | with_reducible assumption | with_reducible exact Lb.new (by first | rfl | (simp only [zA, zC, zD, zN]; done)) (by with_unfolding_all rfl) | with_reducible apply Lb.alloc | with_reducible apply Lb.set | with_reducible apply Lb.drew | (with_reducible refine Lb.ex ?_ (by assumption)) | (refine Lb.chk (S := fun k => k = rb) (by with_reducible assumption) ?_ (by show ¬ _ = rb; omega)))), (Rdp.keep hrd (by (exact kb_))).more (by omega), ext_⟩⟩
      · have hd0 := hb9 rfl
        rcases hop.form with ⟨rfl, h0, h00⟩ | ⟨gp, cur, rfl, hlo, hltg, -⟩
        · omega
        have hdl : 0 < (Sw.ownProof rws t).length := by have := hop.1; omega
        have hdc : dn ≤ dc := hop.rs.2.le
        obtain ⟨x0, hx0⟩ := (hop.lb rfl).at_ (i := 0) (by omega)
        have hfg := (hop.lb rfl).rules.2
        have hd1 : (0 : Int) < (dn : Int) := by omega
        have n1 : gp ≠ gg := by omega
        have n2 : gp ≠ gb := by omega
        go_wp2_with (go_at_call 41; apply Calls.mono; apply l20Mix_c; (apply Rdp.keep; assumption; (exact kb_)); omega; omega; omega; rintro E w2 ⟨mx, rfl, hrd, hb⟩; (have hst := xc hb; (try simp only [zA, zC, zD, zN] at hst); obtain ⟨hc, hf, hz⟩ := hst))
        go_meet
        exact ⟨_, ((OI_put (hop.keep kf_) rfl hdl mx).rs).less (by omega), ⟨⟨sz_, by (go_simp; first | done | simp [*]), by (go_simp; first | done | simp [*]), by (go_simp; first | done | simp [*]), by (go_simp; first | done | simp [*]), fun i => by (go_simp; first | done | simp [*])⟩, ⟨sz_, by (go_simp; first | done | simp [*]), by (go_simp; first | done | simp [*]), by (go_simp; first | done | simp [*]), fun i => by (go_simp; first | done | simp [*])⟩, kS (kf_trans hkf kf_) (.inr (show Wb.heap.size ≤ gp by omega)), by (repeat (first | with_reducible assumption | with_reducible exact Lb.new (by first | rfl | (simp only [zA, zC, zD, zN]; done)) (by with_unfolding_all rfl) | with_reducible apply Lb.alloc | with_reducible apply Lb.set | with_reducible apply Lb.drew | (with_reducible refine Lb.ex ?_ (by assumption)) | (refine Lb.chk (S := fun k => k = rb) (by with_reducible assumption) ?_ (by show ¬ _ = rb; omega)))), by (repeat (first | with_reducible assumption | with_reducible exact Lb.new (by first | rfl | (simp only [zA, zC, zD, zN]; done)) (by with_unfolding_all rfl) | with_reducible apply Lb.alloc | with_reducible apply Lb.set | with_reducible apply Lb.drew | (with_reducible refine Lb.ex ?_ (by assumption)) | (refine Lb.chk (S := fun k => k = rb) (by with_reducible assumption) ?_ (by show ¬ _ = rb; omega)))), (Rdp.keep hrd (by (exact kb_))).more (by omega), ext_⟩⟩
    case rest =>
    ((repeat (rename Ch _ _ _ => zz; clear zz)); (repeat (rename Rdp _ _ _ => zz; clear zz)); (repeat (rename (∀ (b o : Nat), ¬ ((⟨b, 0, none⟩ : Addr) = ⟨b - _ + _, 0, none⟩) → _) => zz; clear zz)))
    clear l0 k0 k1 k2 k3 kf hR4 hR3 m0 j0 j1 j2 jf hkf hop
    obtain ⟨ps, hps, ⟨⟨l0, k0, k1, k2, k3, kf⟩, ⟨m0, j0, j1, j2, jf⟩, hkf, hR4, hR3, hrd, hb⟩⟩ := hcut
    obtain ⟨ra0, hra0⟩ := hR4.at_ (i := 0) (by omega)
    obtain ⟨ra1, hra1⟩ := hR4.at_ (i := 1) (by omega)
    obtain ⟨ra2, hra2⟩ := hR4.at_ (i := 2) (by omega)
    obtain ⟨ra3, hra3⟩ := hR4.at_ (i := 3) (by omega)
    have haf := hR4.rules.2
    obtain ⟨rb0, hrb0'⟩ := hR3.at_ (i := 0) (by omega)
    obtain ⟨rb1, hrb1'⟩ := hR3.at_ (i := 1) (by omega)
    obtain ⟨rb2, hrb2'⟩ := hR3.at_ (i := 2) (by omega)
    have hbf := hR3.rules.2
    have n1 : ¬ w.heap.size = gg := by omega
    have n2 : ¬ w.heap.size = gb := by omega
    have n3 : ¬ w.heap.size + 1 = gg := by omega
    have n4 : ¬ w.heap.size + 1 = gb := by omega
    have hds := hys1.keep hkf
    go_wp2_with fail
    (refine wp_name ?_; intro W0 hb0; have hst := xr hb0; (try simp only [zA, zC, zD, zN] at hst); obtain ⟨hc0, hf0, hz0⟩ := hst)
    go_region_held3 (fun w' => w'.cell? ⟨gg, 0, none⟩ = some (.int .i64 t1) ∧ w'.cell? ⟨gg, 1, none⟩ = some (.int .i64 t2) ∧ w'.cell? ⟨gg, 2, none⟩ = some (.int .i64 t3) ∧ w'.cell? ⟨gg, 3, none⟩ = some (.slice B k e) ∧ w'.cell? ⟨gb, 0, none⟩ = some (.int .i64 r1) ∧ w'.cell? ⟨gb, 1, none⟩ = some (.int .i64 r2) ∧ w'.cell? ⟨gb, 2, none⟩ = some (.bool r3)) (go_keep) (fail)
    all_goals go_wp2_with fail
    all_goals refine bodyPost_ret (v := .tuple #[.agg #[.int .i64 t1, .int .i64 t2, .int .i64 t3, .slice B k e], .int .i64 t, .int .i64 who, .agg #[.int .i64 r1, .int .i64 r2, .bool r3], .slice D dn dc]) (by simp [results, Tryz.results7, go_sem, *]) rfl ?_
    all_goals exact ⟨_, _, _, _, _, _, ys, t, who, r1, r2, r3, _, _, _, ps, rfl, ⟨(hds.keep kf_).less (Nat.zero_le _), (Rs.keep hps kf_).less (Nat.zero_le _), ht⟩, ext_⟩
end Go.Proofs.YtdbnbembjebfhaaGreat


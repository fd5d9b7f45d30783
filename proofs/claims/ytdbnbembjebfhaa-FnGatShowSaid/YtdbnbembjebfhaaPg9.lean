/-
  Texts joined: DrawS, Gate4, Impl5, UpS.
-/
import Derived.Test.YtdbnbembjebfhaaPg8
import Derived.Test.YtdbnbembjebfhaaPg6
import Derived.Test.YtdbnbembjebfhaaPg7
import Derived.Test.YtdbnbembjebfhaaPg2
import Derived.Test.YtdbnbembjebfhaaPg3
namespace Go.Proofs.Ytdbnbembjebfhaa
set_option maxRecDepth 100000
set_option linter.unusedSimpArgs false
set_option linter.unusedVariables false
open Go.RowKit Go
set_option maxHeartbeats 4000000

theorem kf_trans {lo : Nat} {a b c : World} (h : KF lo a b) (k : KF lo b c) : KF lo a c :=
  ⟨Nat.le_trans h.size k.size, fun x hx hl => (k.block x hx (Nat.lt_of_lt_of_le hl h.size)).trans (h.block x hx hl)⟩
/-- A row in block g. -/
structure RAt (w : World) (g : Nat) (a b : Int) (c : Bool) : Prop where
  lt : g < w.heap.size
  c0 : w.cell? ⟨g, 0, none⟩ = some (.int .i64 a)
  c1 : w.cell? ⟨g, 1, none⟩ = some (.int .i64 b)
  c2 : w.cell? ⟨g, 2, none⟩ = some (.bool c)
  free : ∀ i, w.frozen? ⟨g, i, none⟩ = false
/-- What is drawn so far: the gate in its box, the entries, the results' boxes, the reader. -/
structure GS (w wx : World) (rb gg : Nat) (t1 t2 t3 : Int) (B : Option Addr) (k e : Nat) (ys : List Int) (P : Nat) : Prop where
  gate : GAt wx gg t1 t2 t3 B k e
  done : RI wx (rb + 1) B e k ys
  r4 : Lb wx w.heap.size 4
  r3 : Lb wx (w.heap.size + 1) 3
  rd : Rdp wx rb P
  ch : Ch (· = rb) w wx
/-- The same, with the row in its box; what was made before lies in Wb. -/
structure GS3 (w Wb wx : World) (rb gg gb : Nat) (t1 t2 t3 : Int) (B : Option Addr) (k e : Nat) (r1 r2 : Int) (r3 : Bool) (P : Nat) : Prop where
  gate : GAt wx gg t1 t2 t3 B k e
  row : RAt wx gb r1 r2 r3
  kf : KF (rb + 1) Wb wx
  r4 : Lb wx w.heap.size 4
  r3' : Lb wx (w.heap.size + 1) 3
  rd : Rdp wx rb P
  ch : Ch (· = rb) w wx
theorem drawGatShow_c (A0 : Option Addr) (c0 n0 : Nat) (bs : List Int) (w : World) (hxs : RB w 0 A0 c0 n0 bs) (hq : ∀ x ∈ bs, 0 ≤ x ∧ x ≤ 255) : Calls Try.prog 5 #[.slice A0 n0 c0] w fun E w' => ∃ (t1 : Int) (t2 : Int) (t3 : Int) (B : Option Addr) (d m : Nat) (xs : List Int) (t : Nat) (who : Int) (r1 : Int) (r2 : Int) (r3 : Bool) (D : Option Addr) (e k : Nat) (ps : List Int), E = .returned (.tuple #[.agg #[.int .i64 t1, .int .i64 t2, .int .i64 t3, .slice B m d], .int .i64 t, .int .i64 who, .agg #[.int .i64 r1, .int .i64 r2, .bool r3], .slice D k e]) ∧ (RI w' 0 B d m xs ∧ RI w' 0 D e k ps ∧ t < 8) ∧ Ex w w' := by
  go_enter Try.func5, Try.ntmps5
  go_wp2_with fail
  apply Calls.mono
  apply l20Open_c
  · apply Rs.at0 hxs; (exact kf_)
  · exact hq
  rintro E w1 ⟨rb, rfl, hrd, hrb, hb⟩
  have hst := xr hb; (try simp only [zA, zC, zD, zN] at hst); obtain ⟨hc, hf, hz⟩ := hst
  have hlt := hrd.lt
  have hrb0 : w.heap.size + 2 ≤ rb := sz_
  go_upto_region 4 with (first | (go_at_call 27; apply Calls.mono; apply l20Log_c; (apply Rdp.keep; assumption; (exact kb_)); (first | assumption | omega); (first | assumption | omega); (first | assumption | omega); rintro E w1 ⟨A, c, m, xs, rfl, hes, hm, hrd, hb⟩; have hst := xc hb; (try simp only [zA, zC, zD, zN] at hst); obtain ⟨hc, hf, hz⟩ := hst) | (go_at_call 28; apply Calls.mono; apply l21Gate_c; (apply Rdp.keep; assumption; (exact kb_)); (apply Rs.less; (first | (apply Rs.keep; assumption; (exact kf_)) | (apply Rs.keep; apply Ow.rs; assumption; (exact kf_))); (first | omega | (simp only [zA, zC, zD, zN]; omega))); (first | assumption | omega); (first | assumption | omega); (first | assumption | omega); (first | assumption | omega); rintro E w1 ⟨a, b, d, B, e, k, ys, rfl, hys, hk, hrd, hb⟩; have hst := xc hb; (try simp only [zA, zC, zD, zN] at hst); obtain ⟨hc, hf, hz⟩ := hst))
  obtain ⟨t1, rfl⟩ : ∃ x, x = a := ⟨_, rfl⟩
  obtain ⟨t2, rfl⟩ : ∃ x, x = b := ⟨_, rfl⟩
  obtain ⟨t3, rfl⟩ : ∃ x, x = d := ⟨_, rfl⟩
  (refine wp_name ?_; intro W0 hb0; have hst := xr hb0; (try simp only [zA, zC, zD, zN] at hst); obtain ⟨hc0, hf0, hz0⟩ := hst)
  obtain ⟨gg, hgg⟩ : ∃ g, g = w1.heap.size := ⟨_, rfl⟩
  have hgg0 : rb < gg := by rw [hgg]; exact hrd.lt
  have HG : GS w W0 rb gg t1 t2 t3 B k e ys 1000 := ⟨by rw [hgg]; exact ⟨sz_, by (go_simp; first | done | simp [*]), by (go_simp; first | done | simp [*]), by (go_simp; first | done | simp [*]), by (go_simp; first | done | simp [*]), fun i => by (go_simp; first | done | simp [*])⟩, (hys.keep kf_).less sz_, by (repeat (first | with_reducible assumption | with_reducible exact Lb.new (by first | rfl | (simp only [zA, zC, zD, zN]; done)) (by with_unfolding_all rfl) | with_reducible apply Lb.alloc | with_reducible apply Lb.set | with_reducible apply Lb.drew | (with_reducible refine Lb.ex ?_ (by assumption)) | (refine Lb.chk (S := fun k => k = rb) (by with_reducible assumption) ?_ (by show ¬ _ = rb; omega)))), by (repeat (first | with_reducible assumption | with_reducible exact Lb.new (by first | rfl | (simp only [zA, zC, zD, zN]; done)) (by with_unfolding_all rfl) | with_reducible apply Lb.alloc | with_reducible apply Lb.set | with_reducible apply Lb.drew | (with_reducible refine Lb.ex ?_ (by assumption)) | (refine Lb.chk (S := fun k => k = rb) (by with_reducible assumption) ?_ (by show ¬ _ = rb; omega)))), Rdp.more (Rdp.keep hrd kb_) (by omega), ext_⟩
  have hes1 : RE W0 (rb + 1) A c m xs := (hes.keep kf_).less sz_
  rw [← hgg]
  clear hgg hrd hb hc hf hz hb0 hc0 hf0 hz0 hes hys
  ((repeat (rename Ch _ _ _ => zz; clear zz)); (repeat (rename Rdp _ _ _ => zz; clear zz)); (repeat (rename (∀ (b o : Nat), ¬ ((⟨b, 0, none⟩ : Addr) = ⟨b - _ + _, 0, none⟩) → _) => zz; clear zz)))
  obtain ⟨⟨l0, k0, k1, k2, k3, kf⟩, hys1, hR4, hR3, hrd, hb⟩ := HG
  go_upto_region 6 with (go_at_call 29; apply Calls.mono; apply (pickN_c (N := 8)); (apply Rdp.keep; assumption; (exact kb_)); omega; rfl; decide; rintro E w8 ⟨t, rfl, ht, hrd, hb⟩; (have hst := xc hb; (try simp only [zA, zC, zD, zN] at hst); obtain ⟨hc, hf, hz⟩ := hst))
  go_cut [40] (fun u wx => ∃ bb : Bool, u = .bool bb ∧ (bb = false → 0 ≤ t1 ∧ t1 ≤ m) ∧ GS w wx rb gg t1 t2 t3 B k e ys 1010 ∧ RE wx (rb + 1) A c m xs)
  case first =>
    by_cases h1 : t1 < 0
    · go_wp2_with (go_at_call 30; apply Calls.mono; apply odd_c; (apply Rdp.keep; assumption; (exact kb_)); (first | assumption | omega); (first | assumption | omega); (first | assumption | omega); rintro E w1 ⟨b, rfl, hrd, hb⟩; have hst := xc hb; (try simp only [zA, zC, zD, zN] at hst); obtain ⟨hc, hf, hz⟩ := hst)
      all_goals go_meet
      all_goals exact ⟨_, rfl, by simp, ⟨⟨sz_, by (go_simp; first | done | simp [*]), by (go_simp; first | done | simp [*]), by (go_simp; first | done | simp [*]), by (go_simp; first | done | simp [*]), fun i => by (go_simp; first | done | simp [*])⟩, hys1.keep kf_, by (repeat (first | with_reducible assumption | with_reducible exact Lb.new (by first | rfl | (simp only [zA, zC, zD, zN]; done)) (by with_unfolding_all rfl) | with_reducible apply Lb.alloc | with_reducible apply Lb.set | with_reducible apply Lb.drew | (with_reducible refine Lb.ex ?_ (by assumption)) | (refine Lb.chk (S := fun k => k = rb) (by with_reducible assumption) ?_ (by show ¬ _ = rb; omega)))), by (repeat (first | with_reducible assumption | with_reducible exact Lb.new (by first | rfl | (simp only [zA, zC, zD, zN]; done)) (by with_unfolding_all rfl) | with_reducible apply Lb.alloc | with_reducible apply Lb.set | with_reducible apply Lb.drew | (with_reducible refine Lb.ex ?_ (by assumption)) | (refine Lb.chk (S := fun k => k = rb) (by with_reducible assumption) ?_ (by show ¬ _ = rb; omega)))), (Rdp.keep hrd (by (exact kb_))).more (by omega), ext_⟩, hes1.keep kf_⟩
    · by_cases h2 : (m : Int) < t1
      · go_wp2_with (go_at_call 30; apply Calls.mono; apply odd_c; (apply Rdp.keep; assumption; (exact kb_)); (first | assumption | omega); (first | assumption | omega); (first | assumption | omega); rintro E w1 ⟨b, rfl, hrd, hb⟩; have hst := xc hb; (try simp only [zA, zC, zD, zN] at hst); obtain ⟨hc, hf, hz⟩ := hst)
        all_goals go_meet
        all_goals exact ⟨_, rfl, by simp, ⟨⟨sz_, by (go_simp; first | done | simp [*]), by (go_simp; first | done | simp [*]), by (go_simp; first | done | simp [*]), by (go_simp; first | done | simp [*]), fun i => by (go_simp; first | done | simp [*])⟩, hys1.keep kf_, by (repeat (first | with_reducible assumption | with_reducible exact Lb.new (by first | rfl | (simp only [zA, zC, zD, zN]; done)) (by with_unfolding_all rfl) | with_reducible apply Lb.alloc | with_reducible apply Lb.set | with_reducible apply Lb.drew | (with_reducible refine Lb.ex ?_ (by assumption)) | (refine Lb.chk (S := fun k => k = rb) (by with_reducible assumption) ?_ (by show ¬ _ = rb; omega)))), by (repeat (first | with_reducible assumption | with_reducible exact Lb.new (by first | rfl | (simp only [zA, zC, zD, zN]; done)) (by with_unfolding_all rfl) | with_reducible apply Lb.alloc | with_reducible apply Lb.set | with_reducible apply Lb.drew | (with_reducible refine Lb.ex ?_ (by assumption)) | (refine Lb.chk (S := fun k => k = rb) (by with_reducible assumption) ?_ (by show ¬ _ = rb; omega)))), (Rdp.keep hrd (by (exact kb_))).more (by omega), ext_⟩, hes1.keep kf_⟩
      · go_wp2_with (go_at_call 30; apply Calls.mono; apply odd_c; (apply Rdp.keep; assumption; (exact kb_)); (first | assumption | omega); (first | assumption | omega); (first | assumption | omega); rintro E w1 ⟨b, rfl, hrd, hb⟩; have hst := xc hb; (try simp only [zA, zC, zD, zN] at hst); obtain ⟨hc, hf, hz⟩ := hst)
        all_goals go_meet
        all_goals exact ⟨_, rfl, fun _ => ⟨by omega, by omega⟩, ⟨⟨sz_, by (go_simp; first | done | simp [*]), by (go_simp; first | done | simp [*]), by (go_simp; first | done | simp [*]), by (go_simp; first | done | simp [*]), fun i => by (go_simp; first | done | simp [*])⟩, hys1.keep kf_, by (repeat (first | with_reducible assumption | with_reducible exact Lb.new (by first | rfl | (simp only [zA, zC, zD, zN]; done)) (by with_unfolding_all rfl) | with_reducible apply Lb.alloc | with_reducible apply Lb.set | with_reducible apply Lb.drew | (with_reducible refine Lb.ex ?_ (by assumption)) | (refine Lb.chk (S := fun k => k = rb) (by with_reducible assumption) ?_ (by show ¬ _ = rb; omega)))), by (repeat (first | with_reducible assumption | with_reducible exact Lb.new (by first | rfl | (simp only [zA, zC, zD, zN]; done)) (by with_unfolding_all rfl) | with_reducible apply Lb.alloc | with_reducible apply Lb.set | with_reducible apply Lb.drew | (with_reducible refine Lb.ex ?_ (by assumption)) | (refine Lb.chk (S := fun k => k = rb) (by with_reducible assumption) ?_ (by show ¬ _ = rb; omega)))), (Rdp.keep hrd (by (exact kb_))).more (by omega), ext_⟩, hes1.keep kf_⟩
  case rest =>
    ((repeat (rename Ch _ _ _ => zz; clear zz)); (repeat (rename Rdp _ _ _ => zz; clear zz)); (repeat (rename (∀ (b o : Nat), ¬ ((⟨b, 0, none⟩ : Addr) = ⟨b - _ + _, 0, none⟩) → _) => zz; clear zz)))
    clear l0 k0 k1 k2 k3 kf hR4 hR3 hys1 hes1
    obtain ⟨bb, rfl, hbb, ⟨⟨l0, k0, k1, k2, k3, kf⟩, hys1, hR4, hR3, hrd, hb⟩, hes1⟩ := hcut
    go_upto_if 40 with fail
    go_cut [11] (fun u wx => ∃ sz : Nat, u = .int .i64 sz ∧ sz ≤ m ∧ GS w wx rb gg t1 t2 t3 B k e ys 1010 ∧ RE wx (rb + 1) A c m xs)
    case first =>
      cases bb
      · obtain ⟨q1, q2⟩ := hbb rfl
        go_wp2_with fail
        go_meet
        exact ⟨t1.toNat, by rw [Int.toNat_of_nonneg q1], by omega, ⟨⟨sz_, by (go_simp; first | done | simp [*]), by (go_simp; first | done | simp [*]), by (go_simp; first | done | simp [*]), by (go_simp; first | done | simp [*]), fun i => by (go_simp; first | done | simp [*])⟩, hys1.keep kf_, by (repeat (first | with_reducible assumption | with_reducible exact Lb.new (by first | rfl | (simp only [zA, zC, zD, zN]; done)) (by with_unfolding_all rfl) | with_reducible apply Lb.alloc | with_reducible apply Lb.set | with_reducible apply Lb.drew | (with_reducible refine Lb.ex ?_ (by assumption)) | (refine Lb.chk (S := fun k => k = rb) (by with_reducible assumption) ?_ (by show ¬ _ = rb; omega)))), by (repeat (first | with_reducible assumption | with_reducible exact Lb.new (by first | rfl | (simp only [zA, zC, zD, zN]; done)) (by with_unfolding_all rfl) | with_reducible apply Lb.alloc | with_reducible apply Lb.set | with_reducible apply Lb.drew | (with_reducible refine Lb.ex ?_ (by assumption)) | (refine Lb.chk (S := fun k => k = rb) (by with_reducible assumption) ?_ (by show ¬ _ = rb; omega)))), (Rdp.keep hrd (by (exact kb_))).more (by omega), ext_⟩, hes1.keep kf_⟩
      · go_wp2_with fail
        go_meet
        exact ⟨m, rfl, Nat.le_refl _, ⟨⟨sz_, by (go_simp; first | done | simp [*]), by (go_simp; first | done | simp [*]), by (go_simp; first | done | simp [*]), by (go_simp; first | done | simp [*]), fun i => by (go_simp; first | done | simp [*])⟩, hys1.keep kf_, by (repeat (first | with_reducible assumption | with_reducible exact Lb.new (by first | rfl | (simp only [zA, zC, zD, zN]; done)) (by with_unfolding_all rfl) | with_reducible apply Lb.alloc | with_reducible apply Lb.set | with_reducible apply Lb.drew | (with_reducible refine Lb.ex ?_ (by assumption)) | (refine Lb.chk (S := fun k => k = rb) (by with_reducible assumption) ?_ (by show ¬ _ = rb; omega)))), by (repeat (first | with_reducible assumption | with_reducible exact Lb.new (by first | rfl | (simp only [zA, zC, zD, zN]; done)) (by with_unfolding_all rfl) | with_reducible apply Lb.alloc | with_reducible apply Lb.set | with_reducible apply Lb.drew | (with_reducible refine Lb.ex ?_ (by assumption)) | (refine Lb.chk (S := fun k => k = rb) (by with_reducible assumption) ?_ (by show ¬ _ = rb; omega)))), (Rdp.keep hrd (by (exact kb_))).more (by omega), ext_⟩, hes1.keep kf_⟩
    case rest =>
    ((repeat (rename Ch _ _ _ => zz; clear zz)); (repeat (rename Rdp _ _ _ => zz; clear zz)); (repeat (rename (∀ (b o : Nat), ¬ ((⟨b, 0, none⟩ : Addr) = ⟨b - _ + _, 0, none⟩) → _) => zz; clear zz)))
    clear l0 k0 k1 k2 k3 kf hR4 hR3 hys1 hes1 hbb
    obtain ⟨sz, rfl, hsz, ⟨⟨l0, k0, k1, k2, k3, kf⟩, hys1, hR4, hR3, hrd, hb⟩, hes1⟩ := hcut
    have hcap := hes1.2.le
    have z0 : (sz : Int) ≤ c := by omega
    have z1 : (0 : Int) ≤ sz := by omega
    have htk := Rs.take hes1 (fun _ => rfl) hsz
    go_upto_if 51 with (go_at_call 31; apply Calls.mono; apply (sOwnFold_c (xs := xs.take sz)); (exact Rs.at0 htk kf_); rintro E w9 ⟨Ra, Rac, Ran, rfl, hor, hb⟩; obtain ⟨bo, hbo⟩ : ∃ bo, bo = (Sw.ownFold (xs.take sz)).isSome := ⟨_, rfl⟩; rw [← hbo]; have HBO := Lib.hid hbo; clear hbo; have hst := xr hb; (try simp only [zA, zC, zD, zN] at hst); obtain ⟨hc, hf, hz⟩ := hst)
    go_cut [12] (fun u wx => ∃ (R : Option Addr) (Rc : Nat) (rws : List Sw.Row), u = .slice R 8 Rc ∧ RR wx (rb + 1) R Rc 8 rws ∧ GS w wx rb gg t1 t2 t3 B k e ys 1010)
    case first =>
      cases bo
      · go_wp2_with (go_at_call 32; refine (sNew_c _).mono ?_; rintro E w1 ⟨An, rfl, hnw, hb⟩; have hst := xr hb; (try simp only [zA, zC, zD, zN] at hst); obtain ⟨hc, hf, hz⟩ := hst)
        go_meet
        exact ⟨_, 8, Sw.rows0, rfl, (hnw.rs.keep kf_).less sz_, ⟨⟨sz_, by (go_simp; first | done | simp [*]), by (go_simp; first | done | simp [*]), by (go_simp; first | done | simp [*]), by (go_simp; first | done | simp [*]), fun i => by (go_simp; first | done | simp [*])⟩, hys1.keep kf_, by (repeat (first | with_reducible assumption | with_reducible exact Lb.new (by first | rfl | (simp only [zA, zC, zD, zN]; done)) (by with_unfolding_all rfl) | with_reducible apply Lb.alloc | with_reducible apply Lb.set | with_reducible apply Lb.drew | (with_reducible refine Lb.ex ?_ (by assumption)) | (refine Lb.chk (S := fun k => k = rb) (by with_reducible assumption) ?_ (by show ¬ _ = rb; omega)))), by (repeat (first | with_reducible assumption | with_reducible exact Lb.new (by first | rfl | (simp only [zA, zC, zD, zN]; done)) (by with_unfolding_all rfl) | with_reducible apply Lb.alloc | with_reducible apply Lb.set | with_reducible apply Lb.drew | (with_reducible refine Lb.ex ?_ (by assumption)) | (refine Lb.chk (S := fun k => k = rb) (by with_reducible assumption) ?_ (by show ¬ _ = rb; omega)))), (Rdp.keep hrd (by (exact kb_))).more (by omega), ext_⟩⟩
      · obtain ⟨rws, hf⟩ := Option.isSome_iff_exists.1 HBO.out.symm
        rw [hf] at hor
        have h8 : Ran = 8 := hor.1.trans (Sw.ownOk_len (Sw.ownFold_ok hf))
        subst h8
        clear hf
        go_wp2_with fail
        go_meet
        exact ⟨_, Rac, rws, rfl, (hor.rs.keep kf_).less sz_, ⟨⟨sz_, by (go_simp; first | done | simp [*]), by (go_simp; first | done | simp [*]), by (go_simp; first | done | simp [*]), by (go_simp; first | done | simp [*]), fun i => by (go_simp; first | done | simp [*])⟩, hys1.keep kf_, by (repeat (first | with_reducible assumption | with_reducible exact Lb.new (by first | rfl | (simp only [zA, zC, zD, zN]; done)) (by with_unfolding_all rfl) | with_reducible apply Lb.alloc | with_reducible apply Lb.set | with_reducible apply Lb.drew | (with_reducible refine Lb.ex ?_ (by assumption)) | (refine Lb.chk (S := fun k => k = rb) (by with_reducible assumption) ?_ (by show ¬ _ = rb; omega)))), by (repeat (first | with_reducible assumption | with_reducible exact Lb.new (by first | rfl | (simp only [zA, zC, zD, zN]; done)) (by with_unfolding_all rfl) | with_reducible apply Lb.alloc | with_reducible apply Lb.set | with_reducible apply Lb.drew | (with_reducible refine Lb.ex ?_ (by assumption)) | (refine Lb.chk (S := fun k => k = rb) (by with_reducible assumption) ?_ (by show ¬ _ = rb; omega)))), (Rdp.keep hrd (by (exact kb_))).more (by omega), ext_⟩⟩
    case rest =>
    ((repeat (rename Ch _ _ _ => zz; clear zz)); (repeat (rename Rdp _ _ _ => zz; clear zz)); (repeat (rename (∀ (b o : Nat), ¬ ((⟨b, 0, none⟩ : Addr) = ⟨b - _ + _, 0, none⟩) → _) => zz; clear zz)))
    clear l0 k0 k1 k2 k3 kf hR4 hR3 hys1 hes1 htk hcap z0 z1
    obtain ⟨R, Rc, rws, rfl, hrr, ⟨⟨l0, k0, k1, k2, k3, kf⟩, hys1, hR4, hR3, hrd, hb⟩⟩ := hcut
    obtain ⟨Wb, rfl⟩ : ∃ x, x = wc := ⟨_, rfl⟩
    obtain ⟨gR, oR, y, rfl, hgR0, hgR, -, -, cr0, cr1, cr2⟩ := at_R hrr ht
    have q0 : (0 : Int) ≤ (t : Int) := by omega
    have q1 : (t : Int) < 8 := by omega
    go_upto_region 12 with fail
    (refine wp_name ?_; intro W0 hb0; have hst := xr hb0; (try simp only [zA, zC, zD, zN] at hst); obtain ⟨hc0, hf0, hz0⟩ := hst)
    obtain ⟨gb, hgb⟩ : ∃ g, g = Wb.heap.size := ⟨_, rfl⟩
    have hgb0 : gg < gb := by rw [hgb]; exact l0
    have hgbW : Wb.heap.size ≤ gb := by omega
    have HG : GS3 w Wb W0 rb gg gb t1 t2 t3 B k e y.who y.face y.used 1010 := by
      rw [hgb]
      exact ⟨⟨sz_, by (go_simp; first | done | simp [*]), by (go_simp; first | done | simp [*]), by (go_simp; first | done | simp [*]), by (go_simp; first | done | simp [*]), fun i => by (go_simp; first | done | simp [*])⟩, ⟨sz_, by (go_simp; first | done | simp [*]), by (go_simp; first | done | simp [*]), by (go_simp; first | done | simp [*]), fun i => by (go_simp; first | done | simp [*])⟩, kf_, by (repeat (first | with_reducible assumption | with_reducible exact Lb.new (by first | rfl | (simp only [zA, zC, zD, zN]; done)) (by with_unfolding_all rfl) | with_reducible apply Lb.alloc | with_reducible apply Lb.set | with_reducible apply Lb.drew | (with_reducible refine Lb.ex ?_ (by assumption)) | (refine Lb.chk (S := fun k => k = rb) (by with_reducible assumption) ?_ (by show ¬ _ = rb; omega)))), by (repeat (first | with_reducible assumption | with_reducible exact Lb.new (by first | rfl | (simp only [zA, zC, zD, zN]; done)) (by with_unfolding_all rfl) | with_reducible apply Lb.alloc | with_reducible apply Lb.set | with_reducible apply Lb.drew | (with_reducible refine Lb.ex ?_ (by assumption)) | (refine Lb.chk (S := fun k => k = rb) (by with_reducible assumption) ?_ (by show ¬ _ = rb; omega)))), (Rdp.keep hrd (by (exact kb_))).more (by omega), ext_⟩
    rw [← hgb]
    clear hgb hrd hb hb0 hc0 hf0 hz0 cr0 cr1 cr2 l0 k0 k1 k2 k3 kf hR4 hR3 hgR
    ((repeat (rename Ch _ _ _ => zz; clear zz)); (repeat (rename Rdp _ _ _ => zz; clear zz)); (repeat (rename (∀ (b o : Nat), ¬ ((⟨b, 0, none⟩ : Addr) = ⟨b - _ + _, 0, none⟩) → _) => zz; clear zz)))
    obtain ⟨⟨l0, k0, k1, k2, k3, kf⟩, ⟨m0, j0, j1, j2, jf⟩, hkf, hR4, hR3, hrd, hb⟩ := HG
    obtain ⟨rA, hrA⟩ : ∃ r, r = y.who := ⟨_, rfl⟩
    obtain ⟨rB, hrB⟩ : ∃ r, r = y.face := ⟨_, rfl⟩
    obtain ⟨rC, hrC⟩ : ∃ r, r = y.used := ⟨_, rfl⟩
    rw [← hrA] at j0
    rw [← hrB] at j1
    rw [← hrC] at j2
    clear hrA hrB hrC
    go_upto_if 60 with (go_at_call 30; apply Calls.mono; apply odd_c; (apply Rdp.keep; assumption; (exact kb_)); omega; omega; omega; rintro E w7 ⟨b4, rfl, hrd, hb⟩; (have hst := xc hb; (try simp only [zA, zC, zD, zN] at hst); obtain ⟨hc, hf, hz⟩ := hst))
    go_cut [15] (fun u wx => ∃ who : Int, u = .int .i64 who ∧ GS3 w Wb wx rb gg gb t1 t2 t3 B k e rA rB rC 1030)
    case first =>
      cases b4
      · go_wp2_with fail
        go_meet
        exact ⟨_, rfl, ⟨⟨sz_, by (go_simp; first | done | simp [*]), by (go_simp; first | done | simp [*]), by (go_simp; first | done | simp [*]), by (go_simp; first | done | simp [*]), fun i => by (go_simp; first | done | simp [*])⟩, ⟨sz_, by (go_simp; first | done | simp [*]), by (go_simp; first | done | simp [*]), by (go_simp; first | done | simp [*]), fun i => by (go_simp; first | done | simp [*])⟩, kf_trans hkf kf_, by (repeat (first | with_reducible assumption | with_reducible exact Lb.new (by first | rfl | (simp only [zA, zC, zD, zN]; done)) (by with_unfolding_all rfl) | with_reducible apply Lb.alloc | with_reducible apply Lb.set | with_reducible apply Lb.drew | (with_reducible refine Lb.ex ?_ (by assumption)) | (refine Lb.chk (S := fun k => k = rb) (by with_reducible assumption) ?_ (by show ¬ _ = rb; omega)))), by (repeat (first | with_reducible assumption | with_reducible exact Lb.new (by first | rfl | (simp only [zA, zC, zD, zN]; done)) (by with_unfolding_all rfl) | with_reducible apply Lb.alloc | with_reducible apply Lb.set | with_reducible apply Lb.drew | (with_reducible refine Lb.ex ?_ (by assumption)) | (refine Lb.chk (S := fun k => k = rb) (by with_reducible assumption) ?_ (by show ¬ _ = rb; omega)))), (Rdp.keep hrd (by (exact kb_))).more (by omega), ext_⟩⟩
      · go_wp2_with (go_at_call 29; apply Calls.mono; apply pick_c; (apply Rdp.keep; assumption; (exact kb_)); (first | assumption | omega); (first | assumption | omega); rintro E w1 ⟨v, rfl, ⟨hv0, hv1⟩, hrd, hb⟩; have hst := xc hb; (try simp only [zA, zC, zD, zN] at hst); obtain ⟨hc, hf, hz⟩ := hst)
        go_meet
        exact ⟨_, rfl, ⟨⟨sz_, by (go_simp; first | done | simp [*]), by (go_simp; first | done | simp [*]), by (go_simp; first | done | simp [*]), by (go_simp; first | done | simp [*]), fun i => by (go_simp; first | done | simp [*])⟩, ⟨sz_, by (go_simp; first | done | simp [*]), by (go_simp; first | done | simp [*]), by (go_simp; first | done | simp [*]), fun i => by (go_simp; first | done | simp [*])⟩, kf_trans hkf kf_, by (repeat (first | with_reducible assumption | with_reducible exact Lb.new (by first | rfl | (simp only [zA, zC, zD, zN]; done)) (by with_unfolding_all rfl) | with_reducible apply Lb.alloc | with_reducible apply Lb.set | with_reducible apply Lb.drew | (with_reducible refine Lb.ex ?_ (by assumption)) | (refine Lb.chk (S := fun k => k = rb) (by with_reducible assumption) ?_ (by show ¬ _ = rb; omega)))), by (repeat (first | with_reducible assumption | with_reducible exact Lb.new (by first | rfl | (simp only [zA, zC, zD, zN]; done)) (by with_unfolding_all rfl) | with_reducible apply Lb.alloc | with_reducible apply Lb.set | with_reducible apply Lb.drew | (with_reducible refine Lb.ex ?_ (by assumption)) | (refine Lb.chk (S := fun k => k = rb) (by with_reducible assumption) ?_ (by show ¬ _ = rb; omega)))), (Rdp.keep hrd (by (exact kb_))).more (by omega), ext_⟩⟩
    case rest =>
    ((repeat (rename Ch _ _ _ => zz; clear zz)); (repeat (rename Rdp _ _ _ => zz; clear zz)); (repeat (rename (∀ (b o : Nat), ¬ ((⟨b, 0, none⟩ : Addr) = ⟨b - _ + _, 0, none⟩) → _) => zz; clear zz)))
    clear l0 k0 k1 k2 k3 kf hR4 hR3 m0 j0 j1 j2 jf hkf
    obtain ⟨who, rfl, ⟨⟨l0, k0, k1, k2, k3, kf⟩, ⟨m0, j0, j1, j2, jf⟩, hkf, hR4, hR3, hrd, hb⟩⟩ := hcut
    go_upto_if 64 with (go_at_call 30; apply Calls.mono; apply odd_c; (apply Rdp.keep; assumption; (exact kb_)); omega; omega; omega; rintro E w6 ⟨b6, rfl, hrd, hb⟩; (have hst := xc hb; (try simp only [zA, zC, zD, zN] at hst); obtain ⟨hc, hf, hz⟩ := hst))
    go_cut [] (fun wx => ∃ (r1 r2 : Int) (r3 : Bool), GS3 w Wb wx rb gg gb t1 t2 t3 B k e r1 r2 r3 1060)
    case first =>
      cases b6
      · go_wp2_with fail
        go_meet
        exact ⟨rA, rB, rC, ⟨⟨sz_, by (go_simp; first | done | simp [*]), by (go_simp; first | done | simp [*]), by (go_simp; first | done | simp [*]), by (go_simp; first | done | simp [*]), fun i => by (go_simp; first | done | simp [*])⟩, ⟨sz_, by (go_simp; first | done | simp [*]), by (go_simp; first | done | simp [*]), by (go_simp; first | done | simp [*]), fun i => by (go_simp; first | done | simp [*])⟩, kf_trans hkf kf_, by (repeat (first | with_reducible assumption | with_reducible exact Lb.new (by first | rfl | (simp only [zA, zC, zD, zN]; done)) (by with_unfolding_all rfl) | with_reducible apply Lb.alloc | with_reducible apply Lb.set | with_reducible apply Lb.drew | (with_reducible refine Lb.ex ?_ (by assumption)) | (refine Lb.chk (S := fun k => k = rb) (by with_reducible assumption) ?_ (by show ¬ _ = rb; omega)))), by (repeat (first | with_reducible assumption | with_reducible exact Lb.new (by first | rfl | (simp only [zA, zC, zD, zN]; done)) (by with_unfolding_all rfl) | with_reducible apply Lb.alloc | with_reducible apply Lb.set | with_reducible apply Lb.drew | (with_reducible refine Lb.ex ?_ (by assumption)) | (refine Lb.chk (S := fun k => k = rb) (by with_reducible assumption) ?_ (by show ¬ _ = rb; omega)))), (Rdp.keep hrd (by (exact kb_))).more (by omega), ext_⟩⟩
      · go_wp2_with (go_at_call 33; apply Calls.mono; apply l20Row_c; (apply Rdp.keep; assumption; (exact kb_)); omega; rintro E w5 ⟨ra, rbx, rc, rfl, hrd, hb⟩; (have hst := xc hb; (try simp only [zA, zC, zD, zN] at hst); obtain ⟨hc, hf, hz⟩ := hst))
        go_meet
        exact ⟨ra, rbx, rc, ⟨⟨sz_, by (go_simp; first | done | simp [*]), by (go_simp; first | done | simp [*]), by (go_simp; first | done | simp [*]), by (go_simp; first | done | simp [*]), fun i => by (go_simp; first | done | simp [*])⟩, ⟨sz_, by (go_simp; first | done | simp [*]), by (go_simp; first | done | simp [*]), by (go_simp; first | done | simp [*]), fun i => by (go_simp; first | done | simp [*])⟩, kS (kS (kS (kf_trans hkf kf_) (.inr hgbW)) (.inr hgbW)) (.inr hgbW), by (repeat (first | with_reducible assumption | with_reducible exact Lb.new (by first | rfl | (simp only [zA, zC, zD, zN]; done)) (by with_unfolding_all rfl) | with_reducible apply Lb.alloc | with_reducible apply Lb.set | with_reducible apply Lb.drew | (with_reducible refine Lb.ex ?_ (by assumption)) | (refine Lb.chk (S := fun k => k = rb) (by with_reducible assumption) ?_ (by show ¬ _ = rb; omega)))), by (repeat (first | with_reducible assumption | with_reducible exact Lb.new (by first | rfl | (simp only [zA, zC, zD, zN]; done)) (by with_unfolding_all rfl) | with_reducible apply Lb.alloc | with_reducible apply Lb.set | with_reducible apply Lb.drew | (with_reducible refine Lb.ex ?_ (by assumption)) | (refine Lb.chk (S := fun k => k = rb) (by with_reducible assumption) ?_ (by show ¬ _ = rb; omega)))), (Rdp.keep hrd (by (exact kb_))).more (by omega), ext_⟩⟩
    case rest =>
    ((repeat (rename Ch _ _ _ => zz; clear zz)); (repeat (rename Rdp _ _ _ => zz; clear zz)); (repeat (rename (∀ (b o : Nat), ¬ ((⟨b, 0, none⟩ : Addr) = ⟨b - _ + _, 0, none⟩) → _) => zz; clear zz)))
    clear l0 k0 k1 k2 k3 kf hR4 hR3 m0 j0 j1 j2 jf hkf
    obtain ⟨r1, r2, r3, ⟨⟨l0, k0, k1, k2, k3, kf⟩, ⟨m0, j0, j1, j2, jf⟩, hkf, hR4, hR3, hrd, hb⟩⟩ := hcut
    have hrr1 := hrr.keep hkf
    go_upto_region 18 with (go_at_call 34; apply Calls.mono; apply (sOwnProof_c (xs := rws) (t := (t : Int))); (apply Rs.at0 hrr1; (exact kf_)); omega; rintro E w4 ⟨D, dc, dn, rfl, hop, hb⟩; have hst := xr hb; (try simp only [zA, zC, zD, zN] at hst); obtain ⟨hc, hf, hz⟩ := hst)
    obtain ⟨L0, hL0⟩ : ∃ L, L = wc.heap.size := ⟨_, rfl⟩
    have hlow : gb < L0 := by rw [hL0]; exact m0
    have HL0 := Lib.hid hL0
    clear hL0
    go_cut [76] (fun u wx => ∃ b9 : Bool, u = .bool b9 ∧ (b9 = true → 0 < dn) ∧ OwI wx L0 D dc dn (Sw.ownProof rws t) ∧ GS3 w Wb wx rb gg gb t1 t2 t3 B k e r1 r2 r3 1080)
    case first =>
      by_cases hd0 : 0 < dn
      · have hd1 : (0 : Int) < (dn : Int) := by omega
        go_wp2_with (go_at_call 30; apply Calls.mono; apply odd_c; (apply Rdp.keep; assumption; (exact kb_)); omega; omega; omega; rintro E w3 ⟨b9, rfl, hrd, hb⟩; (have hst := xc hb; (try simp only [zA, zC, zD, zN] at hst); obtain ⟨hc, hf, hz⟩ := hst))
        all_goals go_meet
        all_goals exact ⟨_, rfl, fun _ => hd0, by rw [HL0.out]; exact hop.keep kf_, ⟨⟨sz_, by (go_simp; first | done | simp [*]), by (go_simp; first | done | simp [*]), by (go_simp; first | done | simp [*]), by (go_simp; first | done | simp [*]), fun i => by (go_simp; first | done | simp [*])⟩, ⟨sz_, by (go_simp; first | done | simp [*]), by (go_simp; first | done | simp [*]), by (go_simp; first | done | simp [*]), fun i => by (go_simp; first | done | simp [*])⟩, kf_trans hkf kf_, by (repeat (first | with_reducible assumption | with_reducible exact Lb.new (by first | rfl | (simp only [zA, zC, zD, zN]; done)) (by with_unfolding_all rfl) | with_reducible apply Lb.alloc | with_reducible apply Lb.set | with_reducible apply Lb.drew | (with_reducible refine Lb.ex ?_ (by assumption)) | (refine Lb.chk (S := fun k => k = rb) (by with_reducible assumption) ?_ (by show ¬ _ = rb; omega)))), by (repeat (first | with_reducible assumption | with_reducible exact Lb.new (by first | rfl | (simp only [zA, zC, zD, zN]; done)) (by with_unfolding_all rfl) | with_reducible apply Lb.alloc | with_reducible apply Lb.set | with_reducible apply Lb.drew | (with_reducible refine Lb.ex ?_ (by assumption)) | (refine Lb.chk (S := fun k => k = rb) (by with_reducible assumption) ?_ (by show ¬ _ = rb; omega)))), (Rdp.keep hrd (by (exact kb_))).more (by omega), ext_⟩⟩
      · have hd1 : dn = 0 := by omega
        subst hd1
        go_wp2_with (go_at_call 30; apply Calls.mono; apply odd_c; (apply Rdp.keep; assumption; (exact kb_)); omega; omega; omega; rintro E w3 ⟨b9, rfl, hrd, hb⟩; (have hst := xc hb; (try simp only [zA, zC, zD, zN] at hst); obtain ⟨hc, hf, hz⟩ := hst))
        all_goals go_meet
        all_goals exact ⟨false, rfl, by simp, by rw [HL0.out]; exact hop.keep kf_, ⟨⟨sz_, by (go_simp; first | done | simp [*]), by (go_simp; first | done | simp [*]), by (go_simp; first | done | simp [*]), by (go_simp; first | done | simp [*]), fun i => by (go_simp; first | done | simp [*])⟩, ⟨sz_, by (go_simp; first | done | simp [*]), by (go_simp; first | done | simp [*]), by (go_simp; first | done | simp [*]), fun i => by (go_simp; first | done | simp [*])⟩, kf_trans hkf kf_, by (repeat (first | with_reducible assumption | with_reducible exact Lb.new (by first | rfl | (simp only [zA, zC, zD, zN]; done)) (by with_unfolding_all rfl) | with_reducible apply Lb.alloc | with_reducible apply Lb.set | with_reducible apply Lb.drew | (with_reducible refine Lb.ex ?_ (by assumption)) | (refine Lb.chk (S := fun k => k = rb) (by with_reducible assumption) ?_ (by show ¬ _ = rb; omega)))), by (repeat (first | with_reducible assumption | with_reducible exact Lb.new (by first | rfl | (simp only [zA, zC, zD, zN]; done)) (by with_unfolding_all rfl) | with_reducible apply Lb.alloc | with_reducible apply Lb.set | with_reducible apply Lb.drew | (with_reducible refine Lb.ex ?_ (by assumption)) | (refine Lb.chk (S := fun k => k = rb) (by with_reducible assumption) ?_ (by show ¬ _ = rb; omega)))), (Rdp.keep hrd (by (exact kb_))).more (by omega), ext_⟩⟩
    case rest =>
    ((repeat (rename Ch _ _ _ => zz; clear zz)); (repeat (rename Rdp _ _ _ => zz; clear zz)); (repeat (rename (∀ (b o : Nat), ¬ ((⟨b, 0, none⟩ : Addr) = ⟨b - _ + _, 0, none⟩) → _) => zz; clear zz)))
    clear l0 k0 k1 k2 k3 kf hR4 hR3 m0 j0 j1 j2 jf hop hkf HL0
    obtain ⟨b9, rfl, hb9, hop, ⟨⟨l0, k0, k1, k2, k3, kf⟩, ⟨m0, j0, j1, j2, jf⟩, hkf, hR4, hR3, hrd, hb⟩⟩ := hcut
    go_upto_if 76 with fail
    go_cut [] (fun wx => ∃ ps : List Int, RI wx (rb + 1) D dc dn ps ∧ GS3 w Wb wx rb gg gb t1 t2 t3 B k e r1 r2 r3 1090)
    case first =>
      cases b9
      · go_wp2_with fail
        go_meet
        exact ⟨_, (hop.rs.keep kf_).less (by omega), ⟨⟨sz_, by (go_simp; first | done | simp [*]), by (go_simp; first | done | simp [*]), by (go_simp; first | done | simp [*]), by (go_simp; first | done | simp [*]), fun i => by (go_simp; first | done | simp [*])⟩, ⟨sz_, by (go_simp; first | done | simp [*]), by (go_simp; first | done | simp [*]), by (go_simp; first | done | simp [*]), fun i => by (go_simp; first | done | simp [*])⟩, kf_trans hkf kf_, by (repeat (first | with_reducible assumption | with_reducible exact Lb.new (by first | rfl | (simp only [zA, zC, zD, zN]; done)) (by with_unfolding_all rfl) | with_reducible apply Lb.alloc | with_reducible apply Lb.set | with_reducible apply Lb.drew | (with_reducible refine Lb.ex ?_ (by assumption)) | (refine Lb.chk (S := fun k => k = rb) (by with_reducible assumption) ?_ (by show ¬ _ = rb; omega)))), by (repeat (first | with_reducible assumption | with_reducible exact Lb.new (by first | rfl | (simp only [zA, zC, zD, zN]; done)) (by with_unfolding_all rfl) | with_reducible apply Lb.alloc | with_reducible apply Lb.set | with_reducible apply Lb.drew | (with_reducible refine Lb.ex ?_ (by assumption)) | (refine Lb.chk (S := fun k => k = rb) (by with_reducible assumption) ?_ (by show ¬ _ = rb; omega)))), (Rdp.keep hrd (by (exact kb_))).more (by omega), ext_⟩⟩
      · have hd0 := hb9 rfl
        rcases hop.form with ⟨rfl, h0, h00⟩ | ⟨gp, cur, rfl, hlo, hltg, -⟩
        · omega
        have hdl : 0 < (Sw.ownProof rws t).length := by have := hop.1; omega
        have hdc : dn ≤ dc := hop.rs.2.le
        obtain ⟨x0, hx0⟩ := (hop.lb rfl).at_ (i := 0) (by omega)
        have hfg := (hop.lb rfl).rules.2
        have hd1 : (0 : Int) < (dn : Int) := by omega
        have n1 : gp ≠ gg := by omega
        have n2 : gp ≠ gb := by omega
        go_wp2_with (go_at_call 35; apply Calls.mono; apply l20Mix_c; (apply Rdp.keep; assumption; (exact kb_)); omega; omega; omega; rintro E w2 ⟨mx, rfl, hrd, hb⟩; (have hst := xc hb; (try simp only [zA, zC, zD, zN] at hst); obtain ⟨hc, hf, hz⟩ := hst))
        go_meet
        exact ⟨_, ((OI_put (hop.keep kf_) rfl hdl mx).rs).less (by omega), ⟨⟨sz_, by (go_simp; first | done | simp [*]), by (go_simp; first | done | simp [*]), by (go_simp; first | done | simp [*]), by (go_simp; first | done | simp [*]), fun i => by (go_simp; first | done | simp [*])⟩, ⟨sz_, by (go_simp; first | done | simp [*]), by (go_simp; first | done | simp [*]), by (go_simp; first | done | simp [*]), fun i => by (go_simp; first | done | simp [*])⟩, kS (kf_trans hkf kf_) (.inr (show Wb.heap.size ≤ gp by omega)), by (repeat (first | with_reducible assumption | with_reducible exact Lb.new (by first | rfl | (simp only [zA, zC, zD, zN]; done)) (by with_unfolding_all rfl) | with_reducible apply Lb.alloc | with_reducible apply Lb.set | with_reducible apply Lb.drew | (with_reducible refine Lb.ex ?_ (by assumption)) | (refine Lb.chk (S := fun k => k = rb) (by with_reducible assumption) ?_ (by show ¬ _ = rb; omega)))), by (repeat (first | with_reducible assumption | with_reducible exact Lb.new (by first | rfl | (simp only [zA, zC, zD, zN]; done)) (by with_unfolding_all rfl) | with_reducible apply Lb.alloc | with_reducible apply Lb.set | with_reducible apply Lb.drew | (with_reducible refine Lb.ex ?_ (by assumption)) | (refine Lb.chk (S := fun k => k = rb) (by with_reducible assumption) ?_ (by show ¬ _ = rb; omega)))), (Rdp.keep hrd (by (exact kb_))).more (by omega), ext_⟩⟩
    case rest =>
    ((repeat (rename Ch _ _ _ => zz; clear zz)); (repeat (rename Rdp _ _ _ => zz; clear zz)); (repeat (rename (∀ (b o : Nat), ¬ ((⟨b, 0, none⟩ : Addr) = ⟨b - _ + _, 0, none⟩) → _) => zz; clear zz)))
    clear l0 k0 k1 k2 k3 kf hR4 hR3 m0 j0 j1 j2 jf hkf hop
    obtain ⟨ps, hps, ⟨⟨l0, k0, k1, k2, k3, kf⟩, ⟨m0, j0, j1, j2, jf⟩, hkf, hR4, hR3, hrd, hb⟩⟩ := hcut
    obtain ⟨ra0, hra0⟩ := hR4.at_ (i := 0) (by omega)
    obtain ⟨ra1, hra1⟩ := hR4.at_ (i := 1) (by omega)
    obtain ⟨ra2, hra2⟩ := hR4.at_ (i := 2) (by omega)
    obtain ⟨ra3, hra3⟩ := hR4.at_ (i := 3) (by omega)
    have haf := hR4.rules.2
    obtain ⟨rb0, hrb0'⟩ := hR3.at_ (i := 0) (by omega)
    obtain ⟨rb1, hrb1'⟩ := hR3.at_ (i := 1) (by omega)
    obtain ⟨rb2, hrb2'⟩ := hR3.at_ (i := 2) (by omega)
    have hbf := hR3.rules.2
    have n1 : ¬ w.heap.size = gg := by omega
    have n2 : ¬ w.heap.size = gb := by omega
    have n3 : ¬ w.heap.size + 1 = gg := by omega
    have n4 : ¬ w.heap.size + 1 = gb := by omega
    have hds := hys1.keep hkf
    go_wp2_with fail
    (refine wp_name ?_; intro W0 hb0; have hst := xr hb0; (try simp only [zA, zC, zD, zN] at hst); obtain ⟨hc0, hf0, hz0⟩ := hst)
    go_region_held3 (fun w' => w'.cell? ⟨gg, 0, none⟩ = some (.int .i64 t1) ∧ w'.cell? ⟨gg, 1, none⟩ = some (.int .i64 t2) ∧ w'.cell? ⟨gg, 2, none⟩ = some (.int .i64 t3) ∧ w'.cell? ⟨gg, 3, none⟩ = some (.slice B k e) ∧ w'.cell? ⟨gb, 0, none⟩ = some (.int .i64 r1) ∧ w'.cell? ⟨gb, 1, none⟩ = some (.int .i64 r2) ∧ w'.cell? ⟨gb, 2, none⟩ = some (.bool r3)) (go_keep) (fail)
    all_goals go_wp2_with fail
    all_goals refine bodyPost_ret (v := .tuple #[.agg #[.int .i64 t1, .int .i64 t2, .int .i64 t3, .slice B k e], .int .i64 t, .int .i64 who, .agg #[.int .i64 r1, .int .i64 r2, .bool r3], .slice D dn dc]) (by simp [results, Try.results5, go_sem, *]) rfl ?_
    all_goals exact ⟨_, _, _, _, _, _, ys, t, who, r1, r2, r3, _, _, _, ps, rfl, ⟨(hds.keep kf_).less (Nat.zero_le _), (Rs.keep hps kf_).less (Nat.zero_le _), ht⟩, ext_⟩
end Go.Proofs.Ytdbnbembjebfhaa

namespace Go.Proofs.Ytdbnbembjebfhaa
set_option maxRecDepth 100000
set_option linter.unusedSimpArgs false
set_option linter.unusedVariables false
open Go.RowKit Go
set_option maxHeartbeats 400000

end Go.Proofs.Ytdbnbembjebfhaa

namespace Go.Proofs.Ytdbnbembjebfhaa
set_option maxRecDepth 100000
set_option linter.unusedSimpArgs false
set_option linter.unusedVariables false
open Go.RowKit Go
set_option maxHeartbeats 400000

theorem iGatOk_c (t : Sw.Head) (A : Option Addr) (c n : Nat) (xs : List Int) (w : World) (hxs : RI w 0 A c n xs) : Calls Try.prog 13 #[.agg #[.int .i64 t.size, .int .i64 t.log, .int .i64 t.own, .slice A n c]] w fun E w' => E = .returned (.bool (Sw.gatOk ⟨t, xs⟩)) ∧ Ex w w' := by
  have hl := Lib.hid hxs.1
  have hcap := hxs.2.le
  have hbig : n ≤ 9223372036854775807 := by have := hxs.2.cap; unfold maxLen at this; omega
  have e : Sw.gatOk ⟨t, xs⟩ = (Sw.hedOk t && Sw.risesFrom (-1) xs) := rfl
  rw [e]; clear e
  go_enter Try.func13, Try.ntmps13
  go_wp2_with fail
  go_loopw [8] (fun i wr => ∃ (k : Nat) (p : Int), k ≤ n ∧ i = .int .i64 k ∧ Ex (w.alloc (.cells #[.int .i64 t.size, .int .i64 t.log, .int .i64 t.own, .slice A n c] 27)) wr ∧ (k = 0 ∧ p = -1 ∨ ∃ j, k = j + 1 ∧ xs[j]? = some p ∧ 0 ≤ p) ∧ Sw.risesFrom (-1) xs = Sw.risesFrom p (xs.drop k)) (fun i _ => n - (intOf i).toNat)
  case atStart => exact ⟨0, -1, Nat.zero_le _, rfl, Ch.refl _ _, .inl ⟨rfl, rfl⟩, rfl⟩
  case round =>
    obtain ⟨k, p, hk, rfl, hb2, hp, hrel⟩ := hrel
    have hst := Ex.rules hb2 rfl
    simp only [World.size_alloc] at hst
    obtain ⟨hc2, hf2, hz2⟩ := hst
    by_cases hlt : k < n
    · obtain ⟨g, off, y, rfl, hg0, hg, hd, hy, hcy⟩ := at_I hxs hlt
      rw [hd, Sw.risesFrom] at hrel
      have Hrel := Lib.hid hrel
      have Hy := Lib.hid hy
      clear hd hy hrel
      cases hin : Sw.inR y 0 7
      case false =>
        go_wp2_with (first | (go_at_call 48; refine (isTicket_c _ _).mono ?_; rintro E w' ⟨rfl, rfl⟩))
        go_ret
        exact ⟨ret_b (by rw [Hrel.out, hin]; simp), ext_⟩
      have hy7 : 0 ≤ y ∧ y ≤ 7 := by simpa [Sw.inR] using hin
      obtain ⟨y0, y7⟩ := hy7
      rcases hp with ⟨rfl, rfl⟩ | ⟨j, rfl, hj, hj0⟩
      · simp only [Nat.add_zero] at hcy
        go_wp2_with (first | (go_at_call 48; refine (isTicket_c _ _).mono ?_; rintro E w' ⟨rfl, rfl⟩))
        go_roundw
        case rel => exact ⟨0 + 1, y, by omega, by go_num, ext_, .inr ⟨0, rfl, Hy.out, y0⟩, by rw [Hrel.out, hin]; simp; omega⟩
        case measure => simp [intOf]; omega
      · obtain ⟨g', off', p', hA', _, _, _, hp', hcp⟩ := at_I hxs (show j < n by omega)
        cases hA'
        obtain rfl : p' = p := by rw [hj] at hp'; exact (Option.some.inj hp').symm
        clear hj hp'
        have t1 : ((j : Int) + 1).toNat = j + 1 := by omega
        have t2 : IntKind.i64.wrap ((j : Int) + 1 - 1) = j := by rw [IntWalk.i64_in _ (by omega)]; omega
        have t3 : (0 : Int) ≤ (j : Int) + 1 := by omega
        have t4 : (j : Int) + 1 < (n : Int) := by omega
        have t5 : (j : Int) < (n : Int) := by omega
        have t6 : (0 : Int) < (j : Int) + 1 := by omega
        by_cases hpy : p' < y
        · have hpy' : decide (y ≤ p') = false := by simp; omega
          go_wp2_with (first | (go_at_call 48; refine (isTicket_c _ _).mono ?_; rintro E w' ⟨rfl, rfl⟩))
          go_roundw
          case rel => exact ⟨j + 1 + 1, y, by omega, by go_num, ext_, .inr ⟨j + 1, rfl, Hy.out, y0⟩, by rw [Hrel.out, hin]; simp [hpy]⟩
          case measure => simp [intOf]; omega
        · have hpy' : y ≤ p' := by omega
          go_wp2_with (first | (go_at_call 48; refine (isTicket_c _ _).mono ?_; rintro E w' ⟨rfl, rfl⟩))
          go_ret
          have hlt' : decide (p' < y) = false := by rw [decide_eq_false_iff_not]; omega
          exact ⟨ret_b (by rw [Hrel.out, hin, hlt']; simp), ext_⟩
    · have Hrel := Lib.hid hrel; clear hrel hp
      go_wp2_with (first | (go_at_call 51; refine (iHedOk_c _ _).mono ?_; rintro E w1 ⟨rfl, hb⟩; have hst := xr hb; (try simp only [zA, zC, zD, zN] at hst); obtain ⟨hc, hf, hz⟩ := hst))
      go_ret
      refine ⟨ret_b ?_, ext_⟩
      have hh := Hrel.out
      rw [List.drop_of_length_le (by have := hl.out; omega)] at hh
      rw [hh]; simp [Sw.risesFrom]

theorem iClone_c (t : Sw.Head) (A : Option Addr) (c n : Nat) (xs : List Int) (w : World) (hxs : RI w 0 A c n xs) (hn : n ≤ 4194304) : Calls Try.prog 36 #[.agg #[.int .i64 t.size, .int .i64 t.log, .int .i64 t.own, .slice A n c]] w fun E w' => ∃ A' c', E = .returned (.agg #[.int .i64 t.size, .int .i64 t.log, .int .i64 t.own, .slice A' n c']) ∧ OwI w' w.heap.size A' c' n xs ∧ Ex w w' := by
  go_enter Try.func36, Try.ntmps36
  go_wp2_with fail
  (refine wp_name ?_; intro W0 hb0; have hst := xr hb0; (try simp only [zA, zC, zD, zN] at hst); obtain ⟨hc0, hf0, hz0⟩ := hst; have hLb : Lb W0 (w.heap.size + 1) 4 := Lb.ex (by exact lbc_) hb0; go_region_held3 (fun w' => HeldB (w.heap.size + 1) 4 W0 w') ((first | with_reducible assumption | with_reducible exact HeldB.start hLb | with_reducible exact HeldB.of (by assumption) (by assumption) | ((repeat (first | with_reducible refine HeldB.set ?_ (by first | exact Or.inl rfl | exact Or.inr (by simp only [zA, zC, zD, zN]; omega) | exact Or.inr (by omega)) | with_reducible refine HeldB.alloc ?_ _ | with_reducible refine HeldB.drew ?_)); (first | with_reducible assumption | with_reducible exact HeldB.refl hLb | with_reducible exact HeldB.of (by assumption) (by assumption) | with_reducible exact HeldB.ex (by assumption) (by assumption))))) ((go_at_call 80; apply Calls.mono; apply iCloneInts_c; ((first | (apply Rs.at0; assumption) | (apply Ow.rs0; assumption)); exact kf_); (first | assumption | omega); rintro E w1 ⟨A', c', rfl, ho1, hb⟩; have hst := xr hb; (try simp only [zA, zC, zD, zN] at hst); obtain ⟨hc, hf, hz⟩ := hst)); all_goals (rename HeldB (w.heap.size + 1) 4 W0 _ => hHx; have hb := HeldB.ch hHx; have hst := xc hb; (try simp only [zA, zC, zD, zN] at hst); obtain ⟨hc, hf, hz⟩ := hst; have hLb3 := HeldB.lb hHx; (repeat (first | with_reducible replace hLb3 := Lb.unset hLb3 | with_reducible replace hLb3 := Lb.undrew hLb3)); obtain ⟨hcb, hfb⟩ := Lb.rules hLb3; clear hHx))
  go_wp2
  refine bodyPost_ret (v := .agg #[.int .i64 t.size, .int .i64 t.log, .int .i64 t.own, .slice A' n c']) (by simp [results, Try.results36, go_sem, *]) rfl ?_
  exact ⟨A', c', rfl, (ho1.keep (by (exact kf_))).less (by exact sz_), ext_⟩

end Go.Proofs.Ytdbnbembjebfhaa

namespace Go.Proofs.Ytdbnbembjebfhaa
set_option maxRecDepth 100000
set_option linter.unusedSimpArgs false
set_option linter.unusedVariables false
open Go.RowKit Go
set_option maxHeartbeats 1000000

theorem upR_ok : ∀ (l : List Int) (n i : Nat) (leaf : Int), Sw.mixOk leaf = true → l.all Sw.mixOk = true → Sw.mixOk (Sw.upR n i leaf l).1 = true
  | [], n, i, leaf, h, _ => by
    unfold Sw.upR
    split
    · exact h
    · rfl
  | y :: l, n, i, leaf, h, ha => by
    unfold Sw.upR
    split
    · exact h
    · split <;> exact pair_ok _ _

theorem sUp_c (N : Nat) (A : Option Addr) (c n m k : Nat) (leaf : Int) (xs : List Int) (w : World) (hN : n ≤ N) (hxs : RI w 0 A c n xs) (h40 : n ≤ 40) (hall : xs.all Sw.mixOk = true) (hleaf : Sw.mixOk leaf = true) (hm : 1 ≤ m) (hk : k < m) (hm40 : m ≤ 40) : Calls Try.prog 154 #[.int .i64 m, .int .i64 k, .int .i64 leaf, .slice A n c] w fun E w' => E = .returned (.tuple #[.int .i64 (Sw.upR m k leaf xs.reverse).1, .bool (Sw.upR m k leaf xs.reverse).2]) ∧ Ex w w' := by
  induction N generalizing A c n m k xs w with
  | zero =>
    have hl := hxs.1
    obtain rfl : n = 0 := by omega
    have hx : xs = [] := List.eq_nil_of_length_eq_zero (by omega)
    subst hx
    clear hl
    by_cases h1 : m = 1
    · subst h1
      go_enter Try.func154, Try.ntmps154
      go_wp2_with fail
      go_ret2
      exact ⟨by simp [Sw.upR], ext_⟩
    · have hb : ((m : Int) == 1) = false := by simp; omega
      have hb2 : decide ((m : Int) < 2) = false := by simp; omega
      go_enter Try.func154, Try.ntmps154
      go_wp2_with fail
      go_ret2
      exact ⟨by simp [Sw.upR, show ¬ m ≤ 1 by omega], ext_⟩
  | succ N ih =>
    have hl := Lib.hid hxs.1
    have hcap := hxs.2.le
    by_cases h0 : n = 0
    · subst h0
      have hx : xs = [] := List.eq_nil_of_length_eq_zero (by have := hl.out; omega)
      subst hx
      exact ih _ c 0 m k [] w (by omega) hxs (by omega) hall hm hk hm40
    · obtain ⟨p, rfl⟩ : ∃ p, n = p + 1 := ⟨n - 1, by omega⟩
      obtain ⟨g, off, y, rfl, hg0, hg, hd, hy, hc⟩ := at_I hxs (show p < p + 1 by omega)
      have hrev := rev_snoc (by have := hl.out; omega) hy
      have hyok : Sw.mixOk y = true := List.all_eq_true.1 hall y (List.mem_of_getElem? hy)
      rw [hrev]
      have Hy := Lib.hid hy
      clear hd hy hrev
      have w1 : IntKind.i64.wrap ((p : Int) + 1 - 1) = p := by rw [IntWalk.i64_in _ (by omega)]; omega
      have tp : (p : Int) < (p : Int) + 1 := by omega
      have hb0 : ((p : Int) + 1 == 0) = false := by simp; omega
      have hb1 : decide ((p : Int) < 0) = false := by simp
      by_cases h1 : m = 1
      · subst h1
        go_enter Try.func154, Try.ntmps154
        go_wp2_with fail
        go_ret2
        exact ⟨by simp [Sw.upR], ext_⟩
      · have h2 : 2 ≤ m := by omega
        have hs1 := Sw.split_lt h2
        have hs0 := Sw.split_pos m
        have hb : ((m : Int) == 1) = false := by simp; omega
        have hb2 : decide ((m : Int) < 2) = false := by simp; omega
        have hal := List.all_take (k := p) hall
        have hal' : (xs.take p).reverse.all Sw.mixOk = true := by rw [List.all_reverse]; exact hal
        by_cases hms : k < Sw.split m
        · have hms' : (k : Int) < (Sw.split m : Int) := by omega
          have e : Sw.upR m k leaf (y :: (xs.take p).reverse) = (Sw.pair (Sw.upR (Sw.split m) k leaf (xs.take p).reverse).1 y, (Sw.upR (Sw.split m) k leaf (xs.take p).reverse).2) := by
            rw [Sw.upR, if_neg (by omega), if_pos hms]
          have xok := upR_ok (xs.take p).reverse (Sw.split m) k leaf hleaf hal'
          rw [e]; clear e
          go_enter Try.func154, Try.ntmps154
          go_wp2_with (first | (go_at_call 108; apply Calls.mono; apply sTreSplit_c; (first | assumption | omega); (first | assumption | omega); rintro E w' ⟨rfl, rfl⟩) | (go_at_call 154; apply Calls.mono; apply ih; omega; (apply Rs.at0; apply RI_take hxs; omega; (exact kf_)); omega; exact hal; omega; omega; omega; rintro E w1 ⟨rfl, hb⟩; have hst := xr hb; (try simp only [zA, zC, zD, zN] at hst); obtain ⟨hc, hf, hz⟩ := hst) | (go_at_call 146; refine (sMixPair_c _ _ _).mono ?_; rintro E w' ⟨rfl, rfl⟩))
          all_goals (try (refine wp_name ?_; intro W0 hb0; have hst := xr hb0; (try simp only [zA, zC, zD, zN] at hst); obtain ⟨hc0, hf0, hz0⟩ := hst; go_region_held3 (fun w' => Held W0 w') ((first | with_reducible assumption | with_reducible exact Held.start _ | with_reducible exact Held.of (by assumption) | with_reducible exact Held.ex (by assumption) (by assumption) | ((repeat (first | with_reducible refine Held.set ?_ (by simp only [zA, zC, zD, zN]; omega) | with_reducible refine Held.alloc ?_ _ | with_reducible refine Held.drew ?_)); (first | with_reducible assumption | with_reducible exact Held.refl _ | with_reducible exact Held.of (by assumption) | with_reducible exact Held.ex (by assumption) (by assumption))) | exact Held.of (by exact ext_))) ((first | (go_at_call 146; refine (sMixPair_c _ _ _).mono ?_; rintro E w' ⟨rfl, rfl⟩))); all_goals (have hb := And.right (by assumption : Held W0 _); have hst := xr hb; (try simp only [zA, zC, zD, zN] at hst); obtain ⟨hc, hf, hz⟩ := hst)))
          all_goals (try go_wp2)
          go_ret2
          exact ⟨by rw [mixPair_ok xok hyok]; rfl, ext_⟩
        · have hms' : ¬ (k : Int) < (Sw.split m : Int) := by omega
          have y0 : IntKind.i64.wrap ((k : Int) - ↑(Sw.split m)) = ((k - Sw.split m : Nat) : Int) := by rw [IntWalk.i64_in _ (by omega)]; omega
          have y1 : IntKind.i64.wrap ((m : Int) - ↑(Sw.split m)) = ((m - Sw.split m : Nat) : Int) := by rw [IntWalk.i64_in _ (by omega)]; omega
          have e : Sw.upR m k leaf (y :: (xs.take p).reverse) = (Sw.pair y (Sw.upR (m - Sw.split m) (k - Sw.split m) leaf (xs.take p).reverse).1, (Sw.upR (m - Sw.split m) (k - Sw.split m) leaf (xs.take p).reverse).2) := by
            rw [Sw.upR, if_neg (by omega), if_neg hms]
          have xok := upR_ok (xs.take p).reverse (m - Sw.split m) (k - Sw.split m) leaf hleaf hal'
          rw [e]; clear e
          go_enter Try.func154, Try.ntmps154
          go_wp2_with (first | (go_at_call 108; apply Calls.mono; apply sTreSplit_c; (first | assumption | omega); (first | assumption | omega); rintro E w' ⟨rfl, rfl⟩) | (go_at_call 154; apply Calls.mono; apply ih; omega; (apply Rs.at0; apply RI_take hxs; omega; (exact kf_)); omega; exact hal; omega; omega; omega; rintro E w1 ⟨rfl, hb⟩; have hst := xr hb; (try simp only [zA, zC, zD, zN] at hst); obtain ⟨hc, hf, hz⟩ := hst) | (go_at_call 146; refine (sMixPair_c _ _ _).mono ?_; rintro E w' ⟨rfl, rfl⟩))
          all_goals (try (refine wp_name ?_; intro W0 hb0; have hst := xr hb0; (try simp only [zA, zC, zD, zN] at hst); obtain ⟨hc0, hf0, hz0⟩ := hst; go_region_held3 (fun w' => Held W0 w') ((first | with_reducible assumption | with_reducible exact Held.start _ | with_reducible exact Held.of (by assumption) | with_reducible exact Held.ex (by assumption) (by assumption) | ((repeat (first | with_reducible refine Held.set ?_ (by simp only [zA, zC, zD, zN]; omega) | with_reducible refine Held.alloc ?_ _ | with_reducible refine Held.drew ?_)); (first | with_reducible assumption | with_reducible exact Held.refl _ | with_reducible exact Held.of (by assumption) | with_reducible exact Held.ex (by assumption) (by assumption))) | exact Held.of (by exact ext_))) ((first | (go_at_call 146; refine (sMixPair_c _ _ _).mono ?_; rintro E w' ⟨rfl, rfl⟩))); all_goals (have hb := And.right (by assumption : Held W0 _); have hst := xr hb; (try simp only [zA, zC, zD, zN] at hst); obtain ⟨hc, hf, hz⟩ := hst)))
          all_goals (try go_wp2)
          go_ret2
          exact ⟨by rw [mixPair_ok hyok xok]; rfl, ext_⟩

theorem sTreUp_c (nn i leaf : Int) (A : Option Addr) (c n : Nat) (xs : List Int) (w : World) (hxs : RI w 0 A c n xs) : Calls Try.prog 121 #[.int .i64 nn, .int .i64 i, .int .i64 leaf, .slice A n c] w fun E w' => E = .returned (.tuple #[.int .i64 ((Sw.treUp nn i leaf xs).getD 0), .bool (Sw.treUp nn i leaf xs).isSome]) ∧ Ex w w' := by
  have hl := Lib.hid hxs.1
  cases g1 : Sw.inR nn 1 40
  case false => have e : Sw.treUp nn i leaf xs = none := by (simp [Sw.treUp, g1])
                rw [e]; go_enter Try.func121, Try.ntmps121; go_wp2_with (first | (go_at_call 41; refine (l1In_c _ _ _ _).mono ?_; rintro E w' ⟨rfl, rfl⟩)); go_ret2; exact ⟨rfl, ext_⟩
  obtain ⟨n0, n1⟩ := Sw.inR_iff.1 g1
  cases g2 : Sw.inR i 0 (nn - 1)
  case false => have e : Sw.treUp nn i leaf xs = none := by (simp [Sw.treUp, g2])
                rw [e]; go_enter Try.func121, Try.ntmps121; go_wp2_with (first | (go_at_call 41; refine (l1In_c _ _ _ _).mono ?_; rintro E w' ⟨rfl, rfl⟩)); go_ret2; exact ⟨rfl, ext_⟩
  obtain ⟨i0, i1⟩ := Sw.inR_iff.1 g2
  cases g3 : Sw.mixOk leaf
  case false => have e : Sw.treUp nn i leaf xs = none := by (simp [Sw.treUp, g3])
                rw [e]; go_enter Try.func121, Try.ntmps121; go_wp2_with (first | (go_at_call 41; refine (l1In_c _ _ _ _).mono ?_; rintro E w' ⟨rfl, rfl⟩) | (go_at_call 87; refine (sMixOk_c _ _).mono ?_; rintro E w' ⟨rfl, rfl⟩)); go_ret2; exact ⟨rfl, ext_⟩
  cases g4 : Sw.treOk xs
  case false => have e : Sw.treUp nn i leaf xs = none := by (simp [Sw.treUp, g4])
                rw [e]; go_enter Try.func121, Try.ntmps121; go_wp2_with (first | (go_at_call 41; refine (l1In_c _ _ _ _).mono ?_; rintro E w' ⟨rfl, rfl⟩) | (go_at_call 87; refine (sMixOk_c _ _).mono ?_; rintro E w' ⟨rfl, rfl⟩) | (go_at_call 153; apply Calls.mono; apply sTreOk_c; ((first | (apply Rs.at0; assumption) | (apply Ow.rs0; assumption)); exact kf_); rintro E w' ⟨rfl, rfl⟩)); go_ret2; exact ⟨rfl, ext_⟩
  obtain ⟨h40, hall⟩ := Sw.treOk_iff.1 g4
  have hn40 : n ≤ 40 := by have := hl.out; omega
  obtain ⟨m, rfl⟩ := Int.eq_ofNat_of_zero_le (show 0 ≤ nn by omega)
  obtain ⟨k, rfl⟩ := Int.eq_ofNat_of_zero_le i0
  have e : Sw.treUp m k leaf xs = if (Sw.upR m k leaf xs.reverse).2 then some (Sw.upR m k leaf xs.reverse).1 else none := by
    simp only [Sw.treUp, g1, g2, g3, g4, Bool.true_and, Sw.up, Int.toNat_natCast]
  rw [e]; clear e
  cases hu : (Sw.upR m k leaf xs.reverse).2
  all_goals
    go_enter Try.func121, Try.ntmps121
    go_wp2_with (first | (go_at_call 41; refine (l1In_c _ _ _ _).mono ?_; rintro E w' ⟨rfl, rfl⟩) | (go_at_call 87; refine (sMixOk_c _ _).mono ?_; rintro E w' ⟨rfl, rfl⟩) | (go_at_call 153; apply Calls.mono; apply sTreOk_c; ((first | (apply Rs.at0; assumption) | (apply Ow.rs0; assumption)); exact kf_); rintro E w' ⟨rfl, rfl⟩) | (go_at_call 154; apply Calls.mono; apply (sUp_c 40); omega; ((first | (apply Rs.at0; assumption) | (apply Ow.rs0; assumption)); exact kf_); omega; exact hall; exact g3; omega; omega; omega; rintro E w1 ⟨rfl, hb⟩; have hst := xr hb; (try simp only [zA, zC, zD, zN] at hst); obtain ⟨hc, hf, hz⟩ := hst))
    go_ret2
    exact ⟨rfl, ext_⟩
theorem sTreCheck_c (r nn i leaf : Int) (A : Option Addr) (c n : Nat) (xs : List Int) (w : World) (hxs : RI w 0 A c n xs) : Calls Try.prog 85 #[.int .i64 r, .int .i64 nn, .int .i64 i, .int .i64 leaf, .slice A n c] w fun E w' => E = .returned (.bool (Sw.treCheck r nn i leaf xs)) ∧ Ex w w' := by
  have e : Sw.treCheck r nn i leaf xs = ((Sw.treUp nn i leaf xs).isSome && ((Sw.treUp nn i leaf xs).getD 0 == r)) := by
    unfold Sw.treCheck
    cases Sw.treUp nn i leaf xs with
    | none => rfl
    | some v => rfl
  rw [e]; clear e
  cases hu : (Sw.treUp nn i leaf xs).isSome
  all_goals
    go_enter Try.func85, Try.ntmps85
    go_wp2_with (first | (go_at_call 121; apply Calls.mono; apply sTreUp_c; ((first | (apply Rs.at0; assumption) | (apply Ow.rs0; assumption)); exact kf_); rintro E w1 ⟨rfl, hb⟩; have hst := xr hb; (try simp only [zA, zC, zD, zN] at hst); obtain ⟨hc, hf, hz⟩ := hst))
    all_goals (go_ret; exact ⟨ret_b (by simp [*]), ext_⟩)
theorem sOwnCheck_c (root t : Int) (r : Sw.Row) (A : Option Addr) (c n : Nat) (xs : List Int) (w : World) (hxs : RI w 0 A c n xs) : Calls Try.prog 43 #[.int .i64 root, .int .i64 t, .agg #[.int .i64 r.who, .int .i64 r.face, .bool r.used], .slice A n c] w fun E w' => E = .returned (.bool (Sw.ownCheck root t r xs)) ∧ Ex w w' := by
  cases g1 : Sw.inR t 0 7
  all_goals
    go_enter Try.func43, Try.ntmps43
    go_wp2_with (first | (go_at_call 41; refine (l1In_c _ _ _ _).mono ?_; rintro E w' ⟨rfl, rfl⟩) | (go_at_call 86; refine (sOwnLeaf_c _ _ _).mono ?_; rintro E w1 ⟨rfl, hb⟩; have hst := xr hb; (try simp only [zA, zC, zD, zN] at hst); obtain ⟨hc, hf, hz⟩ := hst) | (go_at_call 85; apply Calls.mono; apply sTreCheck_c; ((first | (apply Rs.at0; assumption) | (apply Ow.rs0; assumption)); exact kf_); rintro E w1 ⟨rfl, hb⟩; have hst := xr hb; (try simp only [zA, zC, zD, zN] at hst); obtain ⟨hc, hf, hz⟩ := hst))
    all_goals (go_ret; exact ⟨ret_b (by simp [Sw.ownCheck, g1]), ext_⟩)
end Go.Proofs.Ytdbnbembjebfhaa


/-
  Texts joined: DrawL, Grow, Both, Gate, Gate2, Gate3, RegX.
-/
import Derived.Test.YtdbnbembjebfhaaPg5
import Derived.Deep.DeepMust
import Derived.Test.YtdbnbembjebfhaaPg1
namespace Go.Proofs.Ytdbnbembjebfhaa
set_option maxRecDepth 100000
set_option linter.unusedSimpArgs false
set_option linter.unusedVariables false
open Go.RowKit Go
set_option maxHeartbeats 16000000

def sliceLen : Value → Nat
  | .slice _ n _ => n
  | _ => 0
theorem Ints.ex {w w' : World} {g n : Nat} (hb : Ex w w') (h : Ints w g n) : Ints w' g n := h.ch hb (fun h => h)
theorem l20Log_c (rb P : Nat) (n : Int) (w : World) (hr : Rdp w rb P) (hP : P ≤ 900000) (h1 : 1 ≤ n) (h2 : n ≤ 1000000) : Calls Try.prog 27 #[.pointer (some ⟨rb, 0, none⟩), .int .i64 n] w fun E w' => ∃ A c m xs, E = .returned (.slice A m c) ∧ RE w' w.heap.size A c m xs ∧ m ≤ 41 ∧ Rdp w' rb (P + 400) ∧ Ch (· = rb) w w' := by
  have hlt := hr.lt
  go_enter Try.func27, Try.ntmps27
  go_wp2_with (first | (go_at_call 29; apply Calls.mono; apply (pickLit (fun x => x ≤ 40)); (apply Rdp.keep; assumption; (exact kb_)); omega; (first | rfl | (simp; done)); (repeat (first | exact LitQ.nil | (refine LitQ.cons ⟨_, rfl, (by first | exact trivial | omega)⟩ ?_))); omega; (first | omega | (simp only [zA, zC, zD, zN]; omega)); rintro E w1 ⟨v, x, rfl, hv, hq, hcx, hrd, hb⟩; (try simp only [zA, zC, zD, zN] at hcx); have hst := xc hb; (try simp only [zA, zC, zD, zN] at hst); obtain ⟨hc, hf, hz⟩ := hst) | (go_at_call 29; apply Calls.mono; apply pick_c; (apply Rdp.keep; assumption; (exact kb_)); (first | assumption | omega); (first | assumption | omega); rintro E w1 ⟨v, rfl, ⟨hv0, hv1⟩, hrd, hb⟩; have hst := xc hb; (try simp only [zA, zC, zD, zN] at hst); obtain ⟨hc, hf, hz⟩ := hst) | (go_at_call 32; refine (sNew_c _).mono ?_; rintro E w1 ⟨B0, rfl, hrow, hb⟩; have hst := xr hb; (try simp only [zA, zC, zD, zN] at hst); obtain ⟨hc, hf, hz⟩ := hst))
  go_loopw [5, 6, 7] (fun o r k wr => ∃ (A : Option Addr) (c m : Nat) (es : List Sw.Ent) (B : Option Addr) (d : Nat) (rows : List Sw.Row) (kk : Int) (j : Nat), o = .slice A m c ∧ r = .slice B 8 d ∧ k = .int .i64 kk ∧ kk + j ≤ 40 ∧ j ≤ 40 ∧ m ≤ 40 ∧
    Ch (· = rb) w wr ∧ OwE wr w.heap.size A c m es ∧ OwR wr w.heap.size B d 8 rows ∧ Sep A B ∧ Rdp wr rb (P + 2 + 6 * j)) (fun _ _ k _ => (intOf k).toNat)
  case atStart =>
    refine ⟨_, _, 0, [], _, _, Sw.rows0, _, 0, rfl, rfl, rfl, by omega, by omega, by omega, ext_, ?_, (hrow.keep (by (exact kf_))).less (by exact sz_), ?_, hrd.more (by omega)⟩
    · exact Ow.keep (w := w.alloc (.cells #[] 103)) (Ow.new [] rfl rfl rfl (fun _ => rfl) (Nat.le_refl _) (by omega)) (by (exact kf_))
    · intro a b ha hb
      cases ha
      have := (hrow.blk hb).1
      simp only [zA] at this
      show w.heap.size ≠ b.block
      omega
  case round =>
    obtain ⟨A, c, m, es, B, d, rows, kk, j, rfl, rfl, rfl, hkj, hj40, hm, hb, ho, hrow, hsep, hrd⟩ := hrel
    have HK0 : RdCh w wr rb _ := ⟨hrd, hb⟩
    have hst := xc hb
    obtain ⟨hc, hf, hz⟩ := hst
    rcases (show (0 < kk ∧ m < 40) ∨ (¬ 0 < kk) ∨ (0 < kk ∧ ¬ m < 40) by omega) with ⟨hk0, hm40⟩ | hk0 | ⟨hk0, hm40⟩
    · go_wp2_with fail
      apply Calls.mono; apply pick_c; exact hrd; omega; omega
      rintro E w1 ⟨t, rfl, ⟨ht0, ht1⟩, hrd1, hb1⟩
      have hst := xc hb1
      obtain ⟨hc1, hf1, hz1⟩ := hst
      obtain ⟨t, rfl⟩ := Int.eq_ofNat_of_zero_le ht0
      have ht8 : t < 8 := by omega
      obtain ⟨gR, y, hA, hloR, hltR, hy, c0, c1, c2, hfz⟩ := at_OR hrow ht8
      subst hA
      clear hy c2 hfz
      have hcap := entCap_bd y.face
      obtain ⟨hcap0, hcap1⟩ := hcap
      go_upto_if 48 with (first | (go_at_call 29; apply Calls.mono; apply (pickLit (fun _ => True)); (apply Rdp.keep; assumption; (exact kb_)); omega; (first | rfl | (simp; done)); (repeat (first | exact LitQ.nil | (refine LitQ.cons ⟨_, rfl, (by first | exact trivial | omega)⟩ ?_))); omega; (first | omega | (simp only [zA, zC, zD, zN]; omega)); rintro E w1 ⟨v, x, rfl, hv, hq, hcx, hrd, hb⟩; (try simp only [zA, zC, zD, zN] at hcx); have hst := xc hb; (try simp only [zA, zC, zD, zN] at hst); obtain ⟨hc, hf, hz⟩ := hst) | (go_at_call 29; apply Calls.mono; apply pick_c; (apply Rdp.keep; assumption; (exact kb_)); (first | assumption | omega); (first | assumption | omega); rintro E w1 ⟨v, rfl, ⟨hv0, hv1⟩, hrd, hb⟩; have hst := xc hb; (try simp only [zA, zC, zD, zN] at hst); obtain ⟨hc, hf, hz⟩ := hst))
      (refine wp_name ?_; intro W0 hb0; have hst := xr hb0; (try simp only [zA, zC, zD, zN] at hst); obtain ⟨hc0, hf0, hz0⟩ := hst)
      obtain ⟨g, hgg⟩ : ∃ g, g = w1.heap.size := ⟨_, rfl⟩
      have hI : Ints W0 g 4 := Ints.ch hb0 (fun h => h) (by rw [hgg]; (repeat (first | with_reducible assumption | exact Ints.new (zs := [_, _, _]) (by first | with_reducible rfl | omega) rfl rfl | exact Ints.new (zs := [_, _, _, _]) (by first | with_reducible rfl | omega) rfl rfl | exact Ints.new (zs := [_, _, _, _, _, _]) (by first | with_reducible rfl | omega) rfl rfl | with_reducible apply Ints.alloc | with_reducible apply Ints.drew | (with_reducible refine Ints.set ?_ rfl) | (with_reducible refine Ints.ch (by assumption) (by first | omega | (simp only [zA, zC, zD, zN]; omega)) ?_))))
      have HK : RdCh wr W0 rb _ := ⟨Rdp.keep hrd (show KB rb w1 W0 from by (exact kb_)), ext_⟩
      have d0 := (HK.ch.cell (p := ⟨gR, t * 3, none⟩) hltR (show ¬ gR = rb by omega)).trans c0
      have d1 := (HK.ch.cell (p := ⟨gR, t * 3 + 1, none⟩) hltR (show ¬ gR = rb by omega)).trans c1
      rw [← hgg]
      have hg0 : wr.heap.size ≤ g := by omega
      have hgS := hI.lt
      have hRS := Nat.lt_of_lt_of_le hltR HK.ch.size
      ((repeat (rename Ch _ _ _ => zz; clear zz)); (repeat (rename Rdp _ _ _ => zz; clear zz)); (repeat (rename (∀ (b o : Nat), ¬ ((⟨b, 0, none⟩ : Addr) = ⟨b - _ + _, 0, none⟩) → _) => zz; clear zz)))
      clear hgg c0 c1
      have hrd := HK.rd
      have hb := HK.ch
      have hLg := hI.lb
      have hLr := hrd.lb
      have hfr := hI.free
      obtain ⟨ci0, hci0⟩ := hI.at_ (i := 0) (by omega); obtain ⟨ci1, hci1⟩ := hI.at_ (i := 1) (by omega); obtain ⟨ci2, hci2⟩ := hI.at_ (i := 2) (by omega); obtain ⟨ci3, hci3⟩ := hI.at_ (i := 3) (by omega); have hcif := hI.free
      go_cut [] (fun wx => Ints wx g 4 ∧ Rdp wx rb (P + 2 + 6 * j + 6) ∧ Ch (· = rb) wr wx)
      case first =>
        go_wp2_with (first | (go_at_call 29; apply Calls.mono; apply pick_c; (apply Rdp.keep; assumption; (exact kb_)); (first | assumption | omega); (first | assumption | omega); rintro E w1 ⟨v, rfl, ⟨hv0, hv1⟩, hrd, hb⟩; have hst := xc hb; (try simp only [zA, zC, zD, zN] at hst); obtain ⟨hc, hf, hz⟩ := hst))
        · (refine wp_name ?_; intro W0 hb0; have hst := xr hb0; (try simp only [zA, zC, zD, zN] at hst); obtain ⟨hc0, hf0, hz0⟩ := hst; have hLb : Lb W0 (g) 4 := Lb.ex (by exact lbc_) hb0; have hLc : Lb W0 (rb) 2 := Lb.ex (by exact lbc_) hb0; go_region_held3 (fun w' => HeldC (g) 4 (rb) 2 W0 w') ((first | with_reducible assumption | with_reducible exact HeldC.start hLb hLc | with_reducible exact HeldC.of (by assumption) (by assumption) (by assumption) | ((repeat (first | with_reducible refine HeldC.set ?_ (by first | exact Or.inl (Or.inl rfl) | exact Or.inl (Or.inr rfl) | exact Or.inr (by simp only [zA, zC, zD, zN]; omega) | exact Or.inr (by omega)) | with_reducible refine HeldC.alloc ?_ _ | with_reducible refine HeldC.drew ?_)); (first | with_reducible assumption | with_reducible exact HeldC.chr (by assumption) (by assumption) (Rdp.lb (by assumption)) | with_reducible exact HeldC.refl hLb hLc | with_reducible exact HeldC.of (by assumption) (by assumption) (by assumption) | with_reducible exact HeldC.ex (by assumption) (by assumption))))) ((first | (go_at_call 29; apply Calls.mono; apply pick_c; (apply Rdp.keep; assumption; (exact kb_)); (first | assumption | omega); (first | assumption | omega); rintro E w1 ⟨v, rfl, ⟨hv0, hv1⟩, hrd, hb⟩; have hst := xc hb; (try simp only [zA, zC, zD, zN] at hst); obtain ⟨hc, hf, hz⟩ := hst) | (go_at_call 29; apply Calls.mono; apply (pick_z (N := 60)); (apply Rdp.keep; assumption; (exact kb_)); omega; omega; omega; rintro E w1 ⟨v, rfl, ⟨hv0, hv1⟩, hrd, hb⟩; have hst := xc hb; (try simp only [zA, zC, zD, zN] at hst); obtain ⟨hc, hf, hz⟩ := hst) | (go_at_call 71; refine (sEntCap_c _ _).mono ?_; rintro E w' ⟨rfl, rfl⟩))); all_goals (rename HeldC (g) 4 (rb) 2 W0 _ => hHx; have hb := HeldC.ch hHx; have hLb3 := HeldC.lb hHx; (repeat (first | with_reducible replace hLb3 := Lb.unset hLb3 | with_reducible replace hLb3 := Lb.undrew hLb3)); obtain ⟨hcb, hfb⟩ := Lb.rules hLb3; have hLc3 := HeldC.lc hHx; (repeat (first | with_reducible replace hLc3 := Lb.unset hLc3 | with_reducible replace hLc3 := Lb.undrew hLc3)); obtain ⟨hcc, hfc⟩ := Lb.rules hLc3; clear hHx))
          all_goals go_wp2_with (first | (go_at_call 29; apply Calls.mono; apply pick_c; (apply Rdp.keep; assumption; (exact kb_)); (first | assumption | omega); (first | assumption | omega); rintro E w1 ⟨v, rfl, ⟨hv0, hv1⟩, hrd, hb⟩; have hst := xc hb; (try simp only [zA, zC, zD, zN] at hst); obtain ⟨hc, hf, hz⟩ := hst))
          all_goals go_meet
          all_goals exact ⟨by (repeat (first | with_reducible assumption | (with_reducible refine Ints.set ?_ rfl) | with_reducible apply Ints.drew | with_reducible apply Ints.alloc | (with_reducible refine Ints.ex (by with_reducible assumption) ?_) | (with_reducible refine Ints.ch (by assumption) (by first | omega | (simp only [zA, zC, zD, zN]; omega)) ?_))), (Rdp.keep hrd (by (exact kb_))).more (by omega), ext_⟩
        · go_meet
          exact ⟨hI, hrd.more (by omega), hb⟩
      case rest =>
        ((repeat (rename Ch _ _ _ => zz; clear zz)); (repeat (rename Rdp _ _ _ => zz; clear zz)); (repeat (rename (∀ (b o : Nat), ¬ ((⟨b, 0, none⟩ : Addr) = ⟨b - _ + _, 0, none⟩) → _) => zz; clear zz)))
        clear HK hI hgS hRS hLg hLr hfr hci0 hci1 hci2 hci3 hcif d0 d1
        obtain ⟨hI, hrd, hb⟩ := hcut
        have hst := xc hb
        obtain ⟨hc, hf, hz⟩ := hst
        have hgS := hI.lt
        obtain ⟨o0, ho0⟩ := hI.at_ (i := 0) (by omega); obtain ⟨o1, ho1⟩ := hI.at_ (i := 1) (by omega); obtain ⟨o2, ho2⟩ := hI.at_ (i := 2) (by omega); obtain ⟨o3, ho3⟩ := hI.at_ (i := 3) (by omega); have hof := hI.free
        cases hfit : Sw.ownFits rows ⟨o0, o1, o2, o3⟩
        case false =>
          go_wp2_with (first | (go_at_call 72; apply Calls.mono; apply sOwnPutA_c; ((first | (apply Rs.at0; assumption) | (apply Ow.rs0; assumption) | (apply OwT.rs0; assumption)); exact kf_); (first | assumption | omega); rintro E w1 ⟨A2, c2, rfl, hro2, hb⟩; have hst := xr hb; (try simp only [zA, zC, zD, zN] at hst); obtain ⟨hc, hf, hz⟩ := hst))
          have hw := HK0.ch
          go_roundw
          case rel => exact ⟨A, c, m, es, _, d, rows, kk - 1, j + 1, rfl, rfl, by go_num, by omega, by omega, by omega, ext_, ho.keep (by (exact kf_)), hrow.keep (by (exact kf_)), hsep, (Rdp.keep hrd (by (exact kb_))).more (by omega)⟩
          case measure => simp [intOf]; omega
        case true =>
          have hw := HK0.ch
          go_wp2_with (first | (go_at_call 72; apply Calls.mono; apply sOwnPutA_c; ((first | (apply Rs.at0; assumption) | (apply Ow.rs0; assumption) | (apply OwT.rs0; assumption)); exact kf_); (first | assumption | omega); rintro E w1 ⟨A2, c2, rfl, hro2, hb⟩; have hst := xr hb; (try simp only [zA, zC, zD, zN] at hst); obtain ⟨hc, hf, hz⟩ := hst) | (at_builtin; apply wpList_app (lo := w.heap.size) el_E one_E rfl rfl rfl rfl; (first | assumption | exact Ow.nil _ _ | (apply Ow.keep; assumption; exact kf_) | (refine Ow.new [] (by (first | rfl | (simp only [zA, zC, zD, zN]; done) | omega)) rfl rfl (fun _ => rfl) (by exact sz_) (by omega))); (first | (refine Rs.new [⟨o0, o1, o2, o3⟩] (by (first | rfl | (simp only [zA, zC, zD, zN]; done) | omega)) rfl rfl (fun _ => rfl) (by omega))); omega; exact sz_; intro A1 c1 w2 ho1 hch1 hat1 hex1 hlow1; have hb := hex1 (· = rb) w (by exact ext_) (by omega); have hrd := Rdp.low (Rdp.keep (by assumption) (by exact kb_)) hch1.size hlow1 (by omega); have hz := hch1.size; (try simp only [zA, zC, zD, zN] at hz); obtain ⟨hc, hf⟩ := low_rules hlow1; clear hex1))
          go_roundw
          case rel => exact ⟨A1, c1, m + 1, es ++ [⟨o0, o1, o2, o3⟩], _, _, _, kk - 1, j + 1, by first | rfl | simp, rfl, by go_num, by omega, by omega, by omega, ext_, ho1, (Ow.keepApp (hro2.keep (by (exact kf_))) hch1 (Sep.fresh ho hro2 (by omega))).less (by have := hw.size; omega), Sep.grown (Sep.fresh ho hro2 (by omega)) (hro2.keep (by (exact kf_))) hat1, (Rdp.keep hrd (by (exact kb_))).more (by omega)⟩
          case measure => simp [intOf]; omega
    all_goals
      go_upto_if 87 with (go_at_call 30; apply Calls.mono; apply odd_c; (apply Rdp.keep; assumption; (exact kb_)); (first | assumption | omega); (first | assumption | omega); (first | assumption | omega); rintro E w1 ⟨b, rfl, hrd, hb⟩; have hst := xc hb; (try simp only [zA, zC, zD, zN] at hst); obtain ⟨hc, hf, hz⟩ := hst)
      have hw := HK0.ch
      cases b
      case false =>
        go_wp2_with fail
        go_ret
        exact ⟨_, _, _, _, rfl, (ho.keep (by (exact kf_))).rs, by omega, (Rdp.keep hrd (by (exact kb_))).more (by omega), ext_⟩
      case true =>
        go_upto_if 95 with (go_at_call 29; apply Calls.mono; apply pick_c; (apply Rdp.keep; assumption; (exact kb_)); (first | assumption | omega); (first | assumption | omega); rintro E w1 ⟨v, rfl, ⟨hv0, hv1⟩, hrd, hb⟩; have hst := xc hb; (try simp only [zA, zC, zD, zN] at hst); obtain ⟨hc, hf, hz⟩ := hst)
        cases hvz : (v == 0)
        case true =>
          go_wp2_with (first | (go_at_call 73; apply Calls.mono; apply l20Entry_c; (apply Rdp.keep; assumption; (exact kb_)); (first | assumption | omega); (first | assumption | omega); (first | assumption | omega); rintro E w1 ⟨a, b, c, d, rfl, hrd, hb⟩; have hst := xc hb; (try simp only [zA, zC, zD, zN] at hst); obtain ⟨hc, hf, hz⟩ := hst) | (at_builtin; apply wpList_app (lo := w.heap.size) el_E one_E rfl rfl rfl rfl; (first | assumption | exact Ow.nil _ _ | (apply Ow.keep; assumption; exact kf_) | (refine Ow.new [] (by (first | rfl | (simp only [zA, zC, zD, zN]; done) | omega)) rfl rfl (fun _ => rfl) (by exact sz_) (by omega))); (first | (refine Rs.new [⟨a, b, c, d⟩] (by (first | rfl | (simp only [zA, zC, zD, zN]; done) | omega)) rfl rfl (fun _ => rfl) (by omega))); omega; exact sz_; intro A1 c1 w2 ho1 hch1 hat1 hex1 hlow1; have hb := hex1 (· = rb) w (by exact ext_) (by omega); have hrd := Rdp.low (Rdp.keep (by assumption) (by exact kb_)) hch1.size hlow1 (by omega); have hz := hch1.size; (try simp only [zA, zC, zD, zN] at hz); obtain ⟨hc, hf⟩ := low_rules hlow1; clear hex1))
          go_ret
          exact ⟨_, _, _, _, rfl, ho1.rs, by omega, hrd.more (by omega), hb⟩
        case false =>
        rcases Nat.eq_zero_or_pos m with hz0 | hm0
        · (first | (exfalso; omega) | skip)
          all_goals
            have hnd1 : decide (0 < m) = false := by simp; omega
            have hnd2 : decide ((0 : Int) < (m : Int)) = false := by simp; omega
            have HZ := Lib.hid hz0; clear hz0 hm
            go_wp2_with fail
            go_loopw [5] (fun o wx => ∃ (A : Option Addr) (c m : Nat) (es : List Sw.Ent), o = .slice A m c ∧ m ≤ 41 ∧ Ch (· = rb) w wx ∧ OwE wx w.heap.size A c m es ∧ Rdp wx rb (P + 300)) (fun o _ => 41 - sliceLen o)
            case atStart => exact ⟨_, _, m, _, rfl, by have := HZ.out; omega, ext_, ho.keep (by (exact kf_)), (Rdp.keep hrd (by (exact kb_))).more (by omega)⟩
            case round =>
              clear hrd hb ho hw HK0
              obtain ⟨A, c, m, es, rfl, hm, hb, ho, hrd⟩ := hrel
              have hst := xc hb
              obtain ⟨hc, hf, hz⟩ := hst
              by_cases hml : m ≤ 40
              · go_wp2_with (at_builtin; apply wpList_app (lo := w.heap.size) el_E one_E rfl rfl rfl rfl; (first | assumption | exact Ow.nil _ _ | (apply Ow.keep; assumption; exact kf_) | (refine Ow.new [] (by (first | rfl | (simp only [zA, zC, zD, zN]; done) | omega)) rfl rfl (fun _ => rfl) (by exact sz_) (by omega))); (first | (refine Rs.new [⟨1, 1, 1, 1⟩] (by (first | rfl | (simp only [zA, zC, zD, zN]; done) | omega)) rfl rfl (fun _ => rfl) (by omega))); omega; exact sz_; intro A1 c1 w2 ho1 hch1 hat1 hex1 hlow1; have hb := hex1 (· = rb) w (by exact ext_) (by omega); have hrd := Rdp.low (Rdp.keep (by assumption) (by exact kb_)) hch1.size hlow1 (by omega); have hz := hch1.size; (try simp only [zA, zC, zD, zN] at hz); obtain ⟨hc, hf⟩ := low_rules hlow1; clear hex1)
                go_roundw
                case rel => exact ⟨A1, c1, m + 1, _, by first | rfl | simp, by omega, hb, ho1, hrd⟩
                case measure => simp only [sliceLen]; omega
              · go_wp2_with fail
                go_ret
                exact ⟨_, _, _, _, rfl, ho.rs, by omega, hrd.more (by omega), hb⟩
        · go_wp2_with (go_at_call 29; apply Calls.mono; apply pick_c; (apply Rdp.keep; assumption; (exact kb_)); (first | assumption | omega); (first | assumption | omega); rintro E w1 ⟨v, rfl, ⟨hv0, hv1⟩, hrd, hb⟩; have hst := xc hb; (try simp only [zA, zC, zD, zN] at hst); obtain ⟨hc, hf, hz⟩ := hst)
          all_goals
            obtain ⟨k, rfl⟩ := Int.eq_ofNat_of_zero_le hv0
            have hkm : k < m := by omega
            have hcm := ho.rs.2.le
            have hcb := ho.rs.2.cap
            have s1 := ho.rs.take (fun _ => rfl) (k := k) (by omega)
            have s2 := ho.rs.drop (fun _ => rfl) (k := k + 1) (by omega)
            obtain ⟨gA, xA, rfl, hgA0, hgA, _⟩ := Ow.at_ ho (fun _ => rfl) hm0
            have wk : IntKind.i64.wrap ((k : Int) + 1) = (k : Int) + 1 := IntWalk.i64_in _ (by unfold maxLen at hcb; omega)
            have z0 : (0 : Int) ≤ (k : Int) := by omega
            have z1 : (k : Int) ≤ (m : Int) := by omega
            have z2 : (k : Int) + 1 ≤ (m : Int) := by omega
            have z3 : (0 : Int) ≤ (k : Int) + 1 := by omega
            have z4 : (k : Int) ≤ (c : Int) := by omega
            have z5 : (m : Int) ≤ (c : Int) := by omega
            have z6 : ((k : Int) + 1).toNat = k + 1 := by omega
            by_cases hck : c = k + 1
            · rw [if_pos hck] at s2
              subst hck
              obtain rfl : m = k + 1 := by omega
              have z7 : (k : Int) ≤ (k : Int) + 1 := by omega
              have s2 : Rs Sw.Ent.enc 4 wr w.heap.size (some ⟨gA, 0, none⟩) 0 0 [] := by
                rw [List.drop_of_length_le (by have := ho.1; omega), Nat.sub_self] at s2
                exact s2
              clear z1 z2 z4 z5
              have z8 : (k : Int) + 1 ≤ (k : Int) + 1 := by omega
              go_wp2_with fail
              (refine wp_name ?_; intro W0 hb0; have hst := xr hb0; (try simp only [zA, zC, zD, zN] at hst); obtain ⟨hc0, hf0, hz0⟩ := hst; refine wp_region_held_drew (S := fun w' => Held W0 w') (by kernel_rfl) ?_ (fun hHeld => ?_); (focus ((try dsimp only); (first | with_reducible assumption | with_reducible exact Held.start _ | with_reducible exact Held.of (by assumption) | with_reducible exact Held.ex (by assumption) (by assumption) | ((repeat (first | with_reducible refine Held.set ?_ (by simp only [zA, zC, zD, zN]; omega) | with_reducible refine Held.alloc ?_ _ | with_reducible refine Held.drew ?_)); (first | with_reducible assumption | with_reducible exact Held.refl _ | with_reducible exact Held.of (by assumption) | with_reducible exact Held.ex (by assumption) (by assumption))) | exact Held.of (by exact ext_)))); refine regT 1 113 (v := ?_) rfl rfl (by kernel_rfl) (by kernel_rfl) (by kernel_rfl) (fun _ _ _ h => h) (by rfl) ?_ (by assumption) ?_; rotate_left; (focus (intro w hSw; (try dsimp only at hSw); go_simp; (try with_reducible rfl))); (try simp only [Act.put, List.getElem_toArray, List.getElem_cons_succ, List.getElem_cons_zero, List.setIfInBounds_toArray, List.set_cons_zero, List.set_cons_succ]); refine regT 2 114 (v := ?_) rfl rfl (by kernel_rfl) (by kernel_rfl) (by kernel_rfl) (fun _ _ _ h => h) (by rfl) ?_ (by assumption) ?_; rotate_left; (focus (intro w hSw; (try dsimp only at hSw); go_simp; (try with_reducible rfl))); (try simp only [Act.put, List.getElem_toArray, List.getElem_cons_succ, List.getElem_cons_zero, List.setIfInBounds_toArray, List.set_cons_zero, List.set_cons_succ]); refine regT 3 115 (v := ?_) rfl rfl (by kernel_rfl) (by kernel_rfl) (by kernel_rfl) (fun _ _ _ h => h) (by rfl) ?_ (by assumption) ?_; rotate_left; (focus (intro w hSw; (try dsimp only at hSw); go_simp; (try with_reducible rfl))); (try simp only [Act.put, List.getElem_toArray, List.getElem_cons_succ, List.getElem_cons_zero, List.setIfInBounds_toArray, List.set_cons_zero, List.set_cons_succ]); refine regT 5 117 (v := ?_) rfl rfl (by kernel_rfl) (by kernel_rfl) (by kernel_rfl) (fun _ _ _ h => h) (by rfl) ?_ (by assumption) ?_; rotate_left; (focus (intro w hSw; (try dsimp only at hSw); go_simp; (try with_reducible rfl))); (try simp only [Act.put, List.getElem_toArray, List.getElem_cons_succ, List.getElem_cons_zero, List.setIfInBounds_toArray, List.set_cons_zero, List.set_cons_succ]); refine regT 6 118 (v := ?_) rfl rfl (by kernel_rfl) (by kernel_rfl) (by kernel_rfl) (fun _ _ _ h => h) (by rfl) ?_ (by assumption) ?_; rotate_left; (focus (intro w hSw; (try dsimp only at hSw); go_simp; (try with_reducible rfl))); (try simp only [Act.put, List.getElem_toArray, List.getElem_cons_succ, List.getElem_cons_zero, List.setIfInBounds_toArray, List.set_cons_zero, List.set_cons_succ]); refine regT 7 119 (v := ?_) rfl rfl (by kernel_rfl) (by kernel_rfl) (by kernel_rfl) (fun _ _ _ h => h) (by rfl) ?_ (by assumption) ?_; rotate_left; (focus (intro w hSw; (try dsimp only at hSw); go_simp; (try with_reducible rfl))); (try simp only [Act.put, List.getElem_toArray, List.getElem_cons_succ, List.getElem_cons_zero, List.setIfInBounds_toArray, List.set_cons_zero, List.set_cons_succ]); refine regT 8 120 (v := ?_) rfl rfl (by kernel_rfl) (by kernel_rfl) (by kernel_rfl) (fun _ _ _ h => h) (by rfl) ?_ (by assumption) ?_; rotate_left; (focus (intro w hSw; (try dsimp only at hSw); go_simp; (try with_reducible rfl))); (try simp only [Act.put, List.getElem_toArray, List.getElem_cons_succ, List.getElem_cons_zero, List.setIfInBounds_toArray, List.set_cons_zero, List.set_cons_succ]); refine wpAnyH_ready (rs := [0]) (by kernel_rfl) (by simp) ?_; refine AllReadyH.cons rfl (fun K hK => ?_) ?_; rotate_left; (focus exact AllReadyH.nil); go_simp; refine hK.out _ _ ?_ (fun hHeld => ?_); (focus ((try dsimp only); (first | with_reducible assumption | with_reducible exact Held.start _ | with_reducible exact Held.of (by assumption) | with_reducible exact Held.ex (by assumption) (by assumption) | ((repeat (first | with_reducible refine Held.set ?_ (by simp only [zA, zC, zD, zN]; omega) | with_reducible refine Held.alloc ?_ _ | with_reducible refine Held.drew ?_)); (first | with_reducible assumption | with_reducible exact Held.refl _ | with_reducible exact Held.of (by assumption) | with_reducible exact Held.ex (by assumption) (by assumption))) | exact Held.of (by exact ext_)))); clear hK K; (try simp only [Act.put, List.getElem_toArray, List.getElem_cons_succ, List.getElem_cons_zero, List.setIfInBounds_toArray, List.set_cons_zero, List.set_cons_succ]); refine wpAnyH_ready (rs := [4]) (by kernel_rfl) (by simp) ?_; refine AllReadyH.cons rfl (fun K hK => ?_) ?_; rotate_left; (focus exact AllReadyH.nil); (first | (apply step_app (lo := W0.heap.size) el_E one_E rfl rfl rfl rfl; (first | assumption | exact Ow.nil _ _ | (apply Ow.keep; assumption; exact kf_) | (refine Ow.new [] (by (first | rfl | (simp only [zA, zC, zD, zN]; done) | omega)) rfl rfl (fun _ => rfl) (by exact sz_) (by omega))); (apply Rs.at0 s1; exact kf_); omega; (first | exact Nat.le_refl _ | exact sz_); intro A1 c1 w2 ho1 hch1 hat1 hex1 hlow1; have hbx := hex1 (fun _ => False) W0 (And.right (by assumption : Held W0 _)) (Nat.le_refl _); have hz1 := hbx.size; clear hex1 hlow1) | (apply step_app (lo := W0.heap.size) el_E one_E rfl rfl rfl rfl; (first | assumption | exact Ow.nil _ _ | (apply Ow.keep; assumption; exact kf_) | (refine Ow.new [] (by (first | rfl | (simp only [zA, zC, zD, zN]; done) | omega)) rfl rfl (fun _ => rfl) (by exact sz_) (by omega))); (apply Rs.at0 s2; exact kf_); omega; (first | exact Nat.le_refl _ | exact sz_); intro A1 c1 w2 ho1 hch1 hat1 hex1 hlow1; have hbx := hex1 (fun _ => False) W0 (And.right (by assumption : Held W0 _)) (Nat.le_refl _); have hz1 := hbx.size; clear hex1 hlow1)); (try simp only [Act.put, List.getElem_toArray, List.getElem_cons_succ, List.getElem_cons_zero, List.setIfInBounds_toArray, List.set_cons_zero, List.set_cons_succ]); refine hK.out _ _ ?_ (fun hHeld => ?_); (focus ((try dsimp only); (first | with_reducible assumption | with_reducible exact Held.start _ | with_reducible exact Held.of (by assumption) | with_reducible exact Held.ex (by assumption) (by assumption) | ((repeat (first | with_reducible refine Held.set ?_ (by simp only [zA, zC, zD, zN]; omega) | with_reducible refine Held.alloc ?_ _ | with_reducible refine Held.drew ?_)); (first | with_reducible assumption | with_reducible exact Held.refl _ | with_reducible exact Held.of (by assumption) | with_reducible exact Held.ex (by assumption) (by assumption))) | exact Held.of (by exact ext_)))); clear hK K; (try simp only [Act.put, List.getElem_toArray, List.getElem_cons_succ, List.getElem_cons_zero, List.setIfInBounds_toArray, List.set_cons_zero, List.set_cons_succ]); refine wpAnyH_ready (rs := [9]) (by kernel_rfl) (by simp) ?_; refine AllReadyH.cons rfl (fun K hK => ?_) ?_; rotate_left; (focus exact AllReadyH.nil); (first | (apply step_app (lo := W0.heap.size) el_E one_E rfl rfl rfl rfl; (first | assumption | exact Ow.nil _ _ | (apply Ow.keep; assumption; exact kf_) | (refine Ow.new [] (by (first | rfl | (simp only [zA, zC, zD, zN]; done) | omega)) rfl rfl (fun _ => rfl) (by exact sz_) (by omega))); (apply Rs.at0 s1; exact kf_); omega; (first | exact Nat.le_refl _ | exact sz_); intro A1 c1 w2 ho1 hch1 hat1 hex1 hlow1; have hbx := hex1 (fun _ => False) W0 (And.right (by assumption : Held W0 _)) (Nat.le_refl _); have hz1 := hbx.size; clear hex1 hlow1) | (apply step_app (lo := W0.heap.size) el_E one_E rfl rfl rfl rfl; (first | assumption | exact Ow.nil _ _ | (apply Ow.keep; assumption; exact kf_) | (refine Ow.new [] (by (first | rfl | (simp only [zA, zC, zD, zN]; done) | omega)) rfl rfl (fun _ => rfl) (by exact sz_) (by omega))); (apply Rs.at0 s2; exact kf_); omega; (first | exact Nat.le_refl _ | exact sz_); intro A1 c1 w2 ho1 hch1 hat1 hex1 hlow1; have hbx := hex1 (fun _ => False) W0 (And.right (by assumption : Held W0 _)) (Nat.le_refl _); have hz1 := hbx.size; clear hex1 hlow1)); (try simp only [Act.put, List.getElem_toArray, List.getElem_cons_succ, List.getElem_cons_zero, List.setIfInBounds_toArray, List.set_cons_zero, List.set_cons_succ]); refine hK.out _ _ ?_ (fun hHeld => ?_); (focus ((try dsimp only); (first | with_reducible assumption | with_reducible exact Held.start _ | with_reducible exact Held.of (by assumption) | with_reducible exact Held.ex (by assumption) (by assumption) | ((repeat (first | with_reducible refine Held.set ?_ (by simp only [zA, zC, zD, zN]; omega) | with_reducible refine Held.alloc ?_ _ | with_reducible refine Held.drew ?_)); (first | with_reducible assumption | with_reducible exact Held.refl _ | with_reducible exact Held.of (by assumption) | with_reducible exact Held.ex (by assumption) (by assumption))) | exact Held.of (by exact ext_)))); clear hK K; (try simp only [Act.put, List.getElem_toArray, List.getElem_cons_succ, List.getElem_cons_zero, List.setIfInBounds_toArray, List.set_cons_zero, List.set_cons_succ]); refine regT 10 4 (v := ?_) rfl rfl (by kernel_rfl) (by kernel_rfl) (by kernel_rfl) (fun _ _ _ h => h) (by rfl) ?_ (by assumption) ?_; rotate_left; (focus (intro w hSw; (try dsimp only at hSw); go_simp; (try with_reducible rfl))); (try simp only [Act.put, List.getElem_toArray, List.getElem_cons_succ, List.getElem_cons_zero, List.setIfInBounds_toArray, List.set_cons_zero, List.set_cons_succ]); refine wpAnyH_done (by kernel_rfl) ?_ _; all_goals (have hb := And.right (by assumption : Held W0 _); have hst := xr hb; (try simp only [zA, zC, zD, zN] at hst); obtain ⟨hc, hf, hz⟩ := hst))
              go_wp2_with fail
              go_ret
              rw [List.nil_append, List.append_nil, Nat.zero_add, Nat.add_zero] at ho1
              exact ⟨_, _, _, _, rfl, (ho1.less (by have := hw.size; omega)).rs, by omega, (Rdp.keep hrd (by (exact kb_))).more (by omega), ext_⟩
            · rw [if_neg hck] at s2
              simp only [Option.map_some, Addr.add_lit, Nat.zero_add] at s2
              go_wp2_with fail
              (refine wp_name ?_; intro W0 hb0; have hst := xr hb0; (try simp only [zA, zC, zD, zN] at hst); obtain ⟨hc0, hf0, hz0⟩ := hst; refine wp_region_held_drew (S := fun w' => Held W0 w') (by kernel_rfl) ?_ (fun hHeld => ?_); (focus ((try dsimp only); (first | with_reducible assumption | with_reducible exact Held.start _ | with_reducible exact Held.of (by assumption) | with_reducible exact Held.ex (by assumption) (by assumption) | ((repeat (first | with_reducible refine Held.set ?_ (by simp only [zA, zC, zD, zN]; omega) | with_reducible refine Held.alloc ?_ _ | with_reducible refine Held.drew ?_)); (first | with_reducible assumption | with_reducible exact Held.refl _ | with_reducible exact Held.of (by assumption) | with_reducible exact Held.ex (by assumption) (by assumption))) | exact Held.of (by exact ext_)))); refine regT 1 113 (v := ?_) rfl rfl (by kernel_rfl) (by kernel_rfl) (by kernel_rfl) (fun _ _ _ h => h) (by rfl) ?_ (by assumption) ?_; rotate_left; (focus (intro w hSw; (try dsimp only at hSw); go_simp; (try with_reducible rfl))); (try simp only [Act.put, List.getElem_toArray, List.getElem_cons_succ, List.getElem_cons_zero, List.setIfInBounds_toArray, List.set_cons_zero, List.set_cons_succ]); refine regT 2 114 (v := ?_) rfl rfl (by kernel_rfl) (by kernel_rfl) (by kernel_rfl) (fun _ _ _ h => h) (by rfl) ?_ (by assumption) ?_; rotate_left; (focus (intro w hSw; (try dsimp only at hSw); go_simp; (try with_reducible rfl))); (try simp only [Act.put, List.getElem_toArray, List.getElem_cons_succ, List.getElem_cons_zero, List.setIfInBounds_toArray, List.set_cons_zero, List.set_cons_succ]); refine regT 3 115 (v := ?_) rfl rfl (by kernel_rfl) (by kernel_rfl) (by kernel_rfl) (fun _ _ _ h => h) (by rfl) ?_ (by assumption) ?_; rotate_left; (focus (intro w hSw; (try dsimp only at hSw); go_simp; (try with_reducible rfl))); (try simp only [Act.put, List.getElem_toArray, List.getElem_cons_succ, List.getElem_cons_zero, List.setIfInBounds_toArray, List.set_cons_zero, List.set_cons_succ]); refine regT 5 117 (v := ?_) rfl rfl (by kernel_rfl) (by kernel_rfl) (by kernel_rfl) (fun _ _ _ h => h) (by rfl) ?_ (by assumption) ?_; rotate_left; (focus (intro w hSw; (try dsimp only at hSw); go_simp; (try with_reducible rfl))); (try simp only [Act.put, List.getElem_toArray, List.getElem_cons_succ, List.getElem_cons_zero, List.setIfInBounds_toArray, List.set_cons_zero, List.set_cons_succ]); refine regT 6 118 (v := ?_) rfl rfl (by kernel_rfl) (by kernel_rfl) (by kernel_rfl) (fun _ _ _ h => h) (by rfl) ?_ (by assumption) ?_; rotate_left; (focus (intro w hSw; (try dsimp only at hSw); go_simp; (try with_reducible rfl))); (try simp only [Act.put, List.getElem_toArray, List.getElem_cons_succ, List.getElem_cons_zero, List.setIfInBounds_toArray, List.set_cons_zero, List.set_cons_succ]); refine regT 7 119 (v := ?_) rfl rfl (by kernel_rfl) (by kernel_rfl) (by kernel_rfl) (fun _ _ _ h => h) (by rfl) ?_ (by assumption) ?_; rotate_left; (focus (intro w hSw; (try dsimp only at hSw); go_simp; (try with_reducible rfl))); (try simp only [Act.put, List.getElem_toArray, List.getElem_cons_succ, List.getElem_cons_zero, List.setIfInBounds_toArray, List.set_cons_zero, List.set_cons_succ]); refine regT 8 120 (v := ?_) rfl rfl (by kernel_rfl) (by kernel_rfl) (by kernel_rfl) (fun _ _ _ h => h) (by rfl) ?_ (by assumption) ?_; rotate_left; (focus (intro w hSw; (try dsimp only at hSw); go_simp; (try with_reducible rfl))); (try simp only [Act.put, List.getElem_toArray, List.getElem_cons_succ, List.getElem_cons_zero, List.setIfInBounds_toArray, List.set_cons_zero, List.set_cons_succ]); refine wpAnyH_ready (rs := [0]) (by kernel_rfl) (by simp) ?_; refine AllReadyH.cons rfl (fun K hK => ?_) ?_; rotate_left; (focus exact AllReadyH.nil); go_simp; refine hK.out _ _ ?_ (fun hHeld => ?_); (focus ((try dsimp only); (first | with_reducible assumption | with_reducible exact Held.start _ | with_reducible exact Held.of (by assumption) | with_reducible exact Held.ex (by assumption) (by assumption) | ((repeat (first | with_reducible refine Held.set ?_ (by simp only [zA, zC, zD, zN]; omega) | with_reducible refine Held.alloc ?_ _ | with_reducible refine Held.drew ?_)); (first | with_reducible assumption | with_reducible exact Held.refl _ | with_reducible exact Held.of (by assumption) | with_reducible exact Held.ex (by assumption) (by assumption))) | exact Held.of (by exact ext_)))); clear hK K; (try simp only [Act.put, List.getElem_toArray, List.getElem_cons_succ, List.getElem_cons_zero, List.setIfInBounds_toArray, List.set_cons_zero, List.set_cons_succ]); refine wpAnyH_ready (rs := [4]) (by kernel_rfl) (by simp) ?_; refine AllReadyH.cons rfl (fun K hK => ?_) ?_; rotate_left; (focus exact AllReadyH.nil); (first | (apply step_app (lo := W0.heap.size) el_E one_E rfl rfl rfl rfl; (first | assumption | exact Ow.nil _ _ | (apply Ow.keep; assumption; exact kf_) | (refine Ow.new [] (by (first | rfl | (simp only [zA, zC, zD, zN]; done) | omega)) rfl rfl (fun _ => rfl) (by exact sz_) (by omega))); (apply Rs.at0 s1; exact kf_); omega; (first | exact Nat.le_refl _ | exact sz_); intro A1 c1 w2 ho1 hch1 hat1 hex1 hlow1; have hbx := hex1 (fun _ => False) W0 (And.right (by assumption : Held W0 _)) (Nat.le_refl _); have hz1 := hbx.size; clear hex1 hlow1) | (apply step_app (lo := W0.heap.size) el_E one_E rfl rfl rfl rfl; (first | assumption | exact Ow.nil _ _ | (apply Ow.keep; assumption; exact kf_) | (refine Ow.new [] (by (first | rfl | (simp only [zA, zC, zD, zN]; done) | omega)) rfl rfl (fun _ => rfl) (by exact sz_) (by omega))); (apply Rs.at0 s2; exact kf_); omega; (first | exact Nat.le_refl _ | exact sz_); intro A1 c1 w2 ho1 hch1 hat1 hex1 hlow1; have hbx := hex1 (fun _ => False) W0 (And.right (by assumption : Held W0 _)) (Nat.le_refl _); have hz1 := hbx.size; clear hex1 hlow1)); (try simp only [Act.put, List.getElem_toArray, List.getElem_cons_succ, List.getElem_cons_zero, List.setIfInBounds_toArray, List.set_cons_zero, List.set_cons_succ]); refine hK.out _ _ ?_ (fun hHeld => ?_); (focus ((try dsimp only); (first | with_reducible assumption | with_reducible exact Held.start _ | with_reducible exact Held.of (by assumption) | with_reducible exact Held.ex (by assumption) (by assumption) | ((repeat (first | with_reducible refine Held.set ?_ (by simp only [zA, zC, zD, zN]; omega) | with_reducible refine Held.alloc ?_ _ | with_reducible refine Held.drew ?_)); (first | with_reducible assumption | with_reducible exact Held.refl _ | with_reducible exact Held.of (by assumption) | with_reducible exact Held.ex (by assumption) (by assumption))) | exact Held.of (by exact ext_)))); clear hK K; (try simp only [Act.put, List.getElem_toArray, List.getElem_cons_succ, List.getElem_cons_zero, List.setIfInBounds_toArray, List.set_cons_zero, List.set_cons_succ]); refine wpAnyH_ready (rs := [9]) (by kernel_rfl) (by simp) ?_; refine AllReadyH.cons rfl (fun K hK => ?_) ?_; rotate_left; (focus exact AllReadyH.nil); (first | (apply step_app (lo := W0.heap.size) el_E one_E rfl rfl rfl rfl; (first | assumption | exact Ow.nil _ _ | (apply Ow.keep; assumption; exact kf_) | (refine Ow.new [] (by (first | rfl | (simp only [zA, zC, zD, zN]; done) | omega)) rfl rfl (fun _ => rfl) (by exact sz_) (by omega))); (apply Rs.at0 s1; exact kf_); omega; (first | exact Nat.le_refl _ | exact sz_); intro A1 c1 w2 ho1 hch1 hat1 hex1 hlow1; have hbx := hex1 (fun _ => False) W0 (And.right (by assumption : Held W0 _)) (Nat.le_refl _); have hz1 := hbx.size; clear hex1 hlow1) | (apply step_app (lo := W0.heap.size) el_E one_E rfl rfl rfl rfl; (first | assumption | exact Ow.nil _ _ | (apply Ow.keep; assumption; exact kf_) | (refine Ow.new [] (by (first | rfl | (simp only [zA, zC, zD, zN]; done) | omega)) rfl rfl (fun _ => rfl) (by exact sz_) (by omega))); (apply Rs.at0 s2; exact kf_); omega; (first | exact Nat.le_refl _ | exact sz_); intro A1 c1 w2 ho1 hch1 hat1 hex1 hlow1; have hbx := hex1 (fun _ => False) W0 (And.right (by assumption : Held W0 _)) (Nat.le_refl _); have hz1 := hbx.size; clear hex1 hlow1)); (try simp only [Act.put, List.getElem_toArray, List.getElem_cons_succ, List.getElem_cons_zero, List.setIfInBounds_toArray, List.set_cons_zero, List.set_cons_succ]); refine hK.out _ _ ?_ (fun hHeld => ?_); (focus ((try dsimp only); (first | with_reducible assumption | with_reducible exact Held.start _ | with_reducible exact Held.of (by assumption) | with_reducible exact Held.ex (by assumption) (by assumption) | ((repeat (first | with_reducible refine Held.set ?_ (by simp only [zA, zC, zD, zN]; omega) | with_reducible refine Held.alloc ?_ _ | with_reducible refine Held.drew ?_)); (first | with_reducible assumption | with_reducible exact Held.refl _ | with_reducible exact Held.of (by assumption) | with_reducible exact Held.ex (by assumption) (by assumption))) | exact Held.of (by exact ext_)))); clear hK K; (try simp only [Act.put, List.getElem_toArray, List.getElem_cons_succ, List.getElem_cons_zero, List.setIfInBounds_toArray, List.set_cons_zero, List.set_cons_succ]); refine regT 10 4 (v := ?_) rfl rfl (by kernel_rfl) (by kernel_rfl) (by kernel_rfl) (fun _ _ _ h => h) (by rfl) ?_ (by assumption) ?_; rotate_left; (focus (intro w hSw; (try dsimp only at hSw); go_simp; (try with_reducible rfl))); (try simp only [Act.put, List.getElem_toArray, List.getElem_cons_succ, List.getElem_cons_zero, List.setIfInBounds_toArray, List.set_cons_zero, List.set_cons_succ]); refine wpAnyH_done (by kernel_rfl) ?_ _; all_goals (have hb := And.right (by assumption : Held W0 _); have hst := xr hb; (try simp only [zA, zC, zD, zN] at hst); obtain ⟨hc, hf, hz⟩ := hst))
              go_wp2_with fail
              go_ret
              rw [List.nil_append, Nat.zero_add] at ho1
              exact ⟨_, _, _, _, rfl, (ho1.less (by have := hw.size; omega)).rs, by omega, (Rdp.keep hrd (by (exact kb_))).more (by omega), ext_⟩
end Go.Proofs.Ytdbnbembjebfhaa

namespace Go.Proofs.Ytdbnbembjebfhaa
set_option maxRecDepth 100000
set_option linter.unusedSimpArgs false
set_option linter.unusedVariables false
open Go.RowKit Go
set_option maxHeartbeats 400000

theorem grow_len {N : Nat} {l : List Int} {m : Nat} {k : Bool} (h : m ≠ l.length) (hN : l.length ≤ N + 1) : Sw.grow (N + 1) l m k =
    if m ≤ Sw.split l.length then Sw.grow N (l.take (Sw.split l.length)) m k ++ [Sw.root (l.drop (Sw.split l.length))]
    else Sw.grow N (l.drop (Sw.split l.length)) (m - Sw.split l.length) false ++ [Sw.root (l.take (Sw.split l.length))] := by
  rw [Sw.grow, if_neg h]

theorem empty_len {xs : List Int} {N : Nat} (h : xs.length ≤ N) : xs.length ≤ N := h
theorem grow_N : ∀ (N M : Nat) (xs : List Int) (m : Nat) (kn : Bool), xs.length ≤ N → xs.length ≤ M → 1 ≤ m → m ≤ xs.length → Sw.grow N xs m kn = Sw.grow M xs m kn
  | 0, _, xs, m, kn, h1, h2, h3, h4 => by omega
  | _ + 1, 0, xs, m, kn, h1, h2, h3, h4 => by omega
  | N + 1, M + 1, xs, m, kn, h1, h2, h3, h4 => by
    rw [Sw.grow, Sw.grow]
    by_cases e : m = xs.length
    · rw [if_pos e, if_pos e]
    · have l2 : 2 ≤ xs.length := by omega
      have s1 := Sw.split_lt l2
      have s0 := Sw.split_pos xs.length
      rw [if_neg e, if_neg e]
      by_cases g : m ≤ Sw.split xs.length
      · rw [if_pos g, if_pos g, grow_N N M _ m kn (by rw [List.length_take]; omega) (by rw [List.length_take]; omega) h3 (by rw [List.length_take]; omega)]
      · rw [if_neg g, if_neg g, grow_N N M _ (m - Sw.split xs.length) false (by rw [List.length_drop]; omega) (by rw [List.length_drop]; omega) (by omega) (by rw [List.length_drop]; omega)]

end Go.Proofs.Ytdbnbembjebfhaa

namespace Go.Proofs.Ytdbnbembjebfhaa
set_option maxRecDepth 100000
set_option linter.unusedSimpArgs false
set_option linter.unusedVariables false
open Go.RowKit Go
set_option maxHeartbeats 400000

theorem snoc_of {α : Type} {xs : List α} {n : Nat} {y : α} (hn : n + 1 = xs.length) (h : xs[n]? = some y) : xs = xs.take n ++ [y] := by
  rw [← take_snoc h, List.take_of_length_le (by omega)]
theorem rev_snoc {α : Type} {xs : List α} {n : Nat} {y : α} (hn : n + 1 = xs.length) (h : xs[n]? = some y) : xs.reverse = y :: (xs.take n).reverse := by
  conv => lhs; rw [snoc_of hn h]
  simp

end Go.Proofs.Ytdbnbembjebfhaa

namespace Go.Proofs.Ytdbnbembjebfhaa
set_option maxRecDepth 100000
set_option linter.unusedSimpArgs false
set_option linter.unusedVariables false
open Go.RowKit Go
set_option maxHeartbeats 400000

theorem sHedAt_c (A : Option Addr) (c n : Nat) (s : Int) (xs : List Sw.Ent) (w : World) (hxs : RE w 0 A c n xs) : Calls Try.prog 75 #[.slice A n c, .int .i64 s] w fun E w' => E = .returned (.tuple #[.agg #[.int .i64 ((Sw.hedAt xs s).getD Sw.headZ).size, .int .i64 ((Sw.hedAt xs s).getD Sw.headZ).log, .int .i64 ((Sw.hedAt xs s).getD Sw.headZ).own], .bool (Sw.hedAt xs s).isSome]) ∧ Ex w w' := by
  have hl := Lib.hid hxs.1
  have hcap := hxs.2.le
  have hbig : n ≤ 9223372036854775807 := by have := hxs.2.cap; unfold maxLen at this; omega
  cases h1 : Sw.inR s 0 n with
  | true =>
    have b1 : 0 ≤ s ∧ s ≤ n := by simpa [Sw.inR] using h1
    obtain ⟨k, rfl⟩ := Int.eq_ofNat_of_zero_le (show 0 ≤ s by omega)
    have z0 : (0 : Int) ≤ ↑k := by omega
    have z1 : (↑k : Int) ≤ ↑n := by omega
    have z2 : (↑k : Int) ≤ ↑c := by omega
    have e : Sw.hedAt xs k = Sw.hedOf (xs.take k) := by rw [Sw.hedAt, ← hl.out, h1]; rfl
    rw [e]
    clear e
    go_enter Try.func75, Try.ntmps75
    go_wp2_with (first | (go_at_call 41; refine (l1In_c _ _ _ _).mono ?_; rintro E w' ⟨rfl, rfl⟩) | (go_at_call 107; apply Calls.mono; apply sHedOf_c; (apply Rs.at0; apply Rs.take hxs (fun _ => rfl); omega; (exact kf_)); rintro E w1 ⟨rfl, hb⟩; have hst := xr hb; (try simp only [zA, zC, zD, zN] at hst); obtain ⟨hc, hf, hz⟩ := hst))
    refine bodyPost_ret (v := .tuple #[.agg #[.int .i64 ((Sw.hedOf (xs.take k)).getD Sw.headZ).size, .int .i64 ((Sw.hedOf (xs.take k)).getD Sw.headZ).log, .int .i64 ((Sw.hedOf (xs.take k)).getD Sw.headZ).own], .bool (Sw.hedOf (xs.take k)).isSome]) (by simp [results, Try.results75, go_sem, *]) rfl ?_
    exact ⟨rfl, ext_⟩
  | false =>
    have e : Sw.hedAt xs s = none := by rw [Sw.hedAt, ← hl.out, h1]; rfl
    rw [e]
    go_enter Try.func75, Try.ntmps75
    go_wp2_with (first | (go_at_call 41; refine (l1In_c _ _ _ _).mono ?_; rintro E w' ⟨rfl, rfl⟩))
    refine bodyPost_ret (v := .tuple #[.agg #[.int .i64 0, .int .i64 0, .int .i64 0], .bool false]) (by simp [results, Try.results75, go_sem, *]) rfl ?_
    exact ⟨rfl, ext_⟩

end Go.Proofs.Ytdbnbembjebfhaa

namespace Go.Proofs.Ytdbnbembjebfhaa
set_option maxRecDepth 100000
set_option linter.unusedSimpArgs false
set_option linter.unusedVariables false
open Go.RowKit Go
set_option maxHeartbeats 400000

theorem sGatOk_c (t : Sw.Head) (A : Option Addr) (c n : Nat) (xs : List Int) (w : World) (hxs : RI w 0 A c n xs) : Calls Try.prog 9 #[.agg #[.int .i64 t.size, .int .i64 t.log, .int .i64 t.own, .slice A n c]] w fun E w' => E = .returned (.bool (Sw.gatOk ⟨t, xs⟩)) ∧ Ex w w' := by
  have hl := Lib.hid hxs.1
  have hcap := hxs.2.le
  have hbig : n ≤ 9223372036854775807 := by have := hxs.2.cap; unfold maxLen at this; omega
  cases g1 : Sw.hedOk t
  case false =>
    go_enter Try.func9, Try.ntmps9; go_wp2_with (first | (go_at_call 46; refine (sHedOk_c _ _).mono ?_; rintro E w1 ⟨rfl, hb⟩; have hst := xr hb; (try simp only [zA, zC, zD, zN] at hst); obtain ⟨hc, hf, hz⟩ := hst)); go_ret; exact ⟨ret_b (by simp [Sw.gatOk, g1]), ext_⟩
  by_cases hn : n ≤ 8
  case neg =>
    have hb8 : decide (8 < n) = true := by simp; omega
    have e : Sw.gatOk ⟨t, xs⟩ = false := by
      cases hr : Sw.risesFrom (-1) xs with
      | true => have := rises_len xs (-1) hr (by omega) (by omega); have := hl.out; omega
      | false => simp [Sw.gatOk, hr]
    rw [e]; clear e
    go_enter Try.func9, Try.ntmps9; go_wp2_with (first | (go_at_call 46; refine (sHedOk_c _ _).mono ?_; rintro E w1 ⟨rfl, hb⟩; have hst := xr hb; (try simp only [zA, zC, zD, zN] at hst); obtain ⟨hc, hf, hz⟩ := hst)); go_ret; exact ⟨rfl, ext_⟩
  have hb8 : decide (8 < n) = false := by simp; omega
  have e : Sw.gatOk ⟨t, xs⟩ = Sw.risesFrom (-1) xs := by simp [Sw.gatOk, g1]
  rw [e]; clear e
  go_enter Try.func9, Try.ntmps9
  go_wp2_with (first | (go_at_call 46; refine (sHedOk_c _ _).mono ?_; rintro E w1 ⟨rfl, hb⟩; have hst := xr hb; (try simp only [zA, zC, zD, zN] at hst); obtain ⟨hc, hf, hz⟩ := hst))
  go_loopw [3] (fun i wr => ∃ (k : Nat) (p : Int), k ≤ n ∧ i = .int .i64 k ∧ Ex w1 wr ∧ (k = 0 ∧ p = -1 ∨ ∃ j, k = j + 1 ∧ xs[j]? = some p ∧ 0 ≤ p) ∧ Sw.risesFrom (-1) xs = Sw.risesFrom p (xs.drop k)) (fun i _ => n - (intOf i).toNat)
  case atStart => exact ⟨0, -1, Nat.zero_le _, rfl, Ch.refl _ _, .inl ⟨rfl, rfl⟩, rfl⟩
  case round =>
    obtain ⟨k, p, hk, rfl, hb2, hp, hrel⟩ := hrel
    have hst := Ex.rules hb2 rfl
    obtain ⟨hc2, hf2, hz2⟩ := hst
    by_cases hlt : k < n
    · obtain ⟨g, off, y, rfl, hg0, hg, hd, hy, hcy⟩ := at_I hxs hlt
      rw [hd, Sw.risesFrom] at hrel
      have Hrel := Lib.hid hrel
      have Hy := Lib.hid hy
      clear hd hy hrel
      cases hin : Sw.inR y 0 7
      case false =>
        go_wp2_with fail
        go_quiet ((first | (go_at_call 41; exact Calls.quiet_same (l1In_c _ _ _ _))))
        go_wp2
        go_ret
        exact ⟨ret_b (by rw [Hrel.out, hin]; rfl), ext_⟩
      have hy7 : 0 ≤ y ∧ y ≤ 7 := by simpa [Sw.inR] using hin
      obtain ⟨y0, y7⟩ := hy7
      rcases hp with ⟨rfl, rfl⟩ | ⟨j, rfl, hj, hj0⟩
      · simp only [Nat.add_zero] at hcy
        go_wp2_with fail
        go_quiet ((first | (go_at_call 41; exact Calls.quiet_same (l1In_c _ _ _ _))))
        go_wp2
        go_roundw
        case rel => exact ⟨0 + 1, y, by omega, by go_num, ext_, .inr ⟨0, rfl, Hy.out, y0⟩, by rw [Hrel.out, hin]; simp; omega⟩
        case measure => simp [intOf]; omega
      · obtain ⟨g', off', p', hA', _, _, _, hp', hcp⟩ := at_I hxs (show j < n by omega)
        cases hA'
        obtain rfl : p' = p := by rw [hj] at hp'; exact (Option.some.inj hp').symm
        clear hj hp'
        have t1 : ((j : Int) + 1).toNat = j + 1 := by omega
        have t2 : IntKind.i64.wrap ((j : Int) + 1 - 1) = j := by rw [IntWalk.i64_in _ (by omega)]; omega
        have t3 : (0 : Int) ≤ (j : Int) + 1 := by omega
        have t4 : (j : Int) + 1 < (n : Int) := by omega
        have t5 : (j : Int) < (n : Int) := by omega
        by_cases hpy : p' < y
        · go_wp2_with fail
          go_quiet ((first | (go_at_call 41; exact Calls.quiet_same (l1In_c _ _ _ _))))
          go_wp2
          go_roundw
          case rel => exact ⟨j + 1 + 1, y, by omega, by go_num, ext_, .inr ⟨j + 1, rfl, Hy.out, y0⟩, by rw [Hrel.out, hin]; simp [hpy]⟩
          case measure => simp [intOf]; omega
        · have hpy' : y ≤ p' := by omega
          go_wp2_with fail
          go_quiet ((first | (go_at_call 41; exact Calls.quiet_same (l1In_c _ _ _ _))))
          go_wp2
          go_ret
          have hlt' : decide (p' < y) = false := by rw [decide_eq_false_iff_not]; omega
          exact ⟨ret_b (by rw [Hrel.out, hin, hlt']; rfl), ext_⟩
    · have Hrel := Lib.hid hrel; clear hrel hp
      go_wp2_with fail
      go_ret
      refine ⟨ret_b ?_, ext_⟩
      have hh := Hrel.out
      rw [List.drop_of_length_le (by have := hl.out; omega)] at hh
      rw [hh]; rfl

end Go.Proofs.Ytdbnbembjebfhaa

namespace Go.Proofs.Ytdbnbembjebfhaa
set_option maxRecDepth 100000
set_option linter.unusedSimpArgs false
set_option linter.unusedVariables false
open Go.RowKit Go
set_option maxHeartbeats 400000

theorem sCopy_c (t : Sw.Head) (A : Option Addr) (c n : Nat) (xs : List Int) (w : World) (hxs : RI w 0 A c n xs) (hn : n ≤ 4194304) : Calls Try.prog 40 #[.agg #[.int .i64 t.size, .int .i64 t.log, .int .i64 t.own, .slice A n c]] w fun E w' => ∃ A' c', E = .returned (.agg #[.int .i64 t.size, .int .i64 t.log, .int .i64 t.own, .slice A' n c']) ∧ OwI w' w.heap.size A' c' n xs ∧ Ex w w' := by
  go_enter Try.func40, Try.ntmps40
  go_wp2_with fail
  (refine wp_name ?_; intro W0 hb0; have hst := xr hb0; (try simp only [zA, zC, zD, zN] at hst); obtain ⟨hc0, hf0, hz0⟩ := hst; have hLb : Lb W0 (w.heap.size + 1) 4 := Lb.ex (by exact lbc_) hb0; go_region_held3 (fun w' => HeldB (w.heap.size + 1) 4 W0 w') ((first | with_reducible assumption | with_reducible exact HeldB.start hLb | with_reducible exact HeldB.of (by assumption) (by assumption) | ((repeat (first | with_reducible refine HeldB.set ?_ (by first | exact Or.inl rfl | exact Or.inr (by simp only [zA, zC, zD, zN]; omega) | exact Or.inr (by omega)) | with_reducible refine HeldB.alloc ?_ _ | with_reducible refine HeldB.drew ?_)); (first | with_reducible assumption | with_reducible exact HeldB.refl hLb | with_reducible exact HeldB.of (by assumption) (by assumption) | with_reducible exact HeldB.ex (by assumption) (by assumption))))) ((apply step_app (lo := W0.heap.size) el_I one_I rfl rfl rfl rfl; (first | assumption | exact Ow.nil _ _ | (apply Ow.keep; assumption; exact kf_) | (refine Ow.new [] (by (first | rfl | (simp only [zA, zC, zD, zN]; done) | omega)) rfl rfl (fun _ => rfl) (by exact sz_) (by omega))); (first | ((first | (apply Rs.at0; assumption) | (apply Ow.rs0; assumption)); exact kf_)); omega; exact sz_; intro A1 c1 w2 ho1 hch1 hat1 hex1 hlow1; have hbx := hex1 (· = (w.heap.size + 1)) W0 (HeldB.ch (by assumption : HeldB (w.heap.size + 1) 4 W0 _)) (by exact sz_); have hlbx := Lb.low hlow1 (by have := hLb.lt; omega) (HeldB.lb (by assumption : HeldB (w.heap.size + 1) 4 W0 _)); clear hex1 hlow1)); all_goals (rename HeldB (w.heap.size + 1) 4 W0 _ => hHx; have hb := HeldB.ch hHx; have hst := xc hb; (try simp only [zA, zC, zD, zN] at hst); obtain ⟨hc, hf, hz⟩ := hst; have hLb3 := HeldB.lb hHx; (repeat (first | with_reducible replace hLb3 := Lb.unset hLb3 | with_reducible replace hLb3 := Lb.undrew hLb3)); obtain ⟨hcb, hfb⟩ := Lb.rules hLb3; clear hHx))
  go_wp2
  refine bodyPost_ret (v := .agg #[.int .i64 t.size, .int .i64 t.log, .int .i64 t.own, .slice A1 n c1]) (by simp [results, Try.results40, go_sem, *]) rfl ?_
  refine ⟨A1, c1, rfl, ?_, ?_⟩
  · rw [List.nil_append, Nat.zero_add] at ho1
    exact (ho1.keep (by (exact kf_))).less (by omega)
  · exact ext_

theorem sGatNew_c (w : World) : Calls Try.prog 74 #[] w fun E w' => E = .returned (.agg #[.int .i64 ((Sw.hedOf []).getD Sw.headZ).size, .int .i64 ((Sw.hedOf []).getD Sw.headZ).log, .int .i64 ((Sw.hedOf []).getD Sw.headZ).own, .slice none 0 0]) ∧ Ex w w' := by
  go_enter Try.func74, Try.ntmps74
  go_wp2_with (first | (go_at_call 107; apply Calls.mono; apply (sHedOf_c (xs := [])); (refine Rs.new [] (by simp only [World.size_alloc]) rfl rfl (fun _ => rfl) (by omega)); rintro E w1 ⟨rfl, hb⟩; have hst := xr hb; (try simp only [zA, zC, zD, zN] at hst); obtain ⟨hc, hf, hz⟩ := hst))
  refine bodyPost_ret (v := .agg #[.int .i64 ((Sw.hedOf []).getD Sw.headZ).size, .int .i64 ((Sw.hedOf []).getD Sw.headZ).log, .int .i64 ((Sw.hedOf []).getD Sw.headZ).own, .slice none 0 0]) (by simp [results, Try.results74, go_sem, *]) rfl ?_
  exact ⟨rfl, ext_⟩
end Go.Proofs.Ytdbnbembjebfhaa

namespace Go.Proofs.Ytdbnbembjebfhaa
set_option maxRecDepth 100000
set_option linter.unusedSimpArgs false
set_option linter.unusedVariables false
open Go
section
variable {P : Program} {ops : Array Oper} {Q : Exit → Act → World → Prop} {md : Region.Mode} {S : World → Prop} {X : List Nat}
/-- In whatever order what is left comes up, Q holds behind it; S holds behind each operation that is not of X. -/
def GoesX (P : Program) (md : Region.Mode) (ops : Array Oper) (Q : Exit → Act → World → Prop) (S : World → Prop) (X : List Nat) : Nat → Array Bool → Act → World → Prop
  | 0 => fun l a w => Region.ready md ops l = [] ∧ Q .normal a w
  | n + 1 => fun l a w => (Region.ready md ops l = [] → Q .normal a w) ∧ ∀ i, i ∈ Region.ready md ops l → wpOp P ops Q i (fun b v => (X.contains i = false → S v) ∧ GoesX P md ops Q S X n (l.setIfInBounds i true) b v) a w
theorem GoesX.any : ∀ {n : Nat} {l : Array Bool} {a : Act} {w : World}, GoesX P md ops Q S X n l a w → wpAny P md ops Q n l a w
  | 0, _, _, _, h => h
  | _ + 1, _, _, _, h => ⟨h.1, fun i hi => wpOp_mono (fun _ _ k => GoesX.any k.2) (h.2 i hi)⟩
/-- What is of R has not come up, and waits for i, or for another one of R; all of X that has not come up is of R. -/
def lateX (md : Region.Mode) (ops : Array Oper) (X R : List Nat) (l : Array Bool) (i : Nat) : Bool :=
  (R.all fun x => !l.getD x true && (match ops[x]? with | some o => o.after.any (fun e => Region.binds md e && (e.on == i || R.contains e.on)) | none => false)) && X.all fun x => l.getD x true || R.contains x
theorem set_true {l : Array Bool} {x : Nat} : (l.setIfInBounds x true).getD x true = true := by
  by_cases hs : x < l.size
  · simp [Array.getD, hs]
  · simp [Array.getD, hs]
theorem lateX_not {R : List Nat} {l : Array Bool} {i j : Nat} (h : lateX md ops X R l i = true) (hi : l.getD i true = false) (hj : j ∈ Region.ready md ops l) : R.contains j = false := by
  cases hx : R.contains j with
  | false => rfl
  | true =>
    exfalso
    obtain ⟨jun, o, ho, hall⟩ := mem_ready.1 hj
    have hR := List.all_eq_true.1 (Bool.and_eq_true_iff.1 h).1
    have h1 := hR j (by simpa using hx)
    rw [ho, Bool.and_eq_true] at h1
    obtain ⟨e, he, hb⟩ := Array.any_eq_true'.1 h1.2
    rw [Bool.and_eq_true, Bool.or_eq_true, beq_iff_eq] at hb
    have h2 := hall e he hb.1
    have h3 : l.getD e.on true = false := by
      rcases hb.2 with hb | hb
      · rw [hb]; exact hi
      · have h4 := hR e.on (by simpa using hb)
        rw [Bool.and_eq_true, Bool.not_eq_true'] at h4
        exact h4.1
    by_cases hs : e.on < l.size
    · simp [Array.getD, hs] at h2 h3; rw [h2] at h3; cases h3
    · simp [Array.getD, hs] at h2
theorem lateX_X {R : List Nat} {l : Array Bool} {i j : Nat} (h : lateX md ops X R l i = true) (hi : l.getD i true = false) (hj : j ∈ Region.ready md ops l) : X.contains j = false := by
  have h1 := lateX_not h hi hj
  cases hx : X.contains j with
  | false => rfl
  | true =>
    have h2 := List.all_eq_true.1 (Bool.and_eq_true_iff.1 h).2 j (by simpa using hx)
    rw [h1, (mem_ready.1 hj).1] at h2
    cases h2
theorem lateX_more {R : List Nat} {l : Array Bool} {i j : Nat} (h : lateX md ops X R l i = true) (hj : R.contains j = false) : lateX md ops X R (l.setIfInBounds j true) i = true := by
  obtain ⟨h1, h2⟩ := Bool.and_eq_true_iff.1 h
  refine Bool.and_eq_true_iff.2 ⟨List.all_eq_true.2 fun x hx => ?_, List.all_eq_true.2 fun x hx => ?_⟩
  · have h3 := List.all_eq_true.1 h1 x hx
    have hjx : j ≠ x := by
      rintro rfl
      simp at hj
      exact hj hx
    rw [getD_set_ne true hjx]; exact h3
  · have h3 := List.all_eq_true.1 h2 x hx
    by_cases hjx : j = x
    · subst hjx
      rw [set_true]; rfl
    · rw [getD_set_ne true hjx]; exact h3
theorem free_more {l : Array Bool} {i j : Nat} (h : Region.free md ops l i = true) : Region.free md ops (l.setIfInBounds j true) i = true := by
  unfold Region.free at h ⊢
  cases hi : ops[i]? with
  | none => rw [hi] at h; exact h
  | some oi =>
    rw [hi] at h
    dsimp only at h ⊢
    rw [List.all_eq_true] at h ⊢
    intro x hx
    have h1 := h x hx
    by_cases hjx : j = x
    · subst hjx
      simp [set_true]
    · rw [getD_set_ne true hjx]; exact h1
/-- An operation that yields v wherever T holds is carried out first: T is what S says, and all of X comes behind it; or it is of X, and T says nothing. -/
theorem GoesX.first {T : World → Prop} {R : List Nat} {i : Nat} {oi : Oper} {v : Value} (hi : ops[i]? = some oi) (hsel : Region.noSelect ops = true)
    (hQ : ∀ c a w, Q (.panic c) (a.put oi.dst v) w → Q (.panic c) a w) : ∀ (n : Nat) (l : Array Bool) (a : Act) (w : World),
      ((X.contains i = true ∧ ∀ w, T w) ∨ (lateX md ops X R l i = true ∧ (∀ w, S w → T w) ∧ S w)) → Region.free md ops l i = true → i ∈ Region.ready md ops l → YieldsIf P ops T oi v a →
      GoesX P md ops Q S X n (l.setIfInBounds i true) (a.put oi.dst v) w → GoesX P md ops Q S X (n + 1) l a w := by
  have ns := Region.noSelect_spec hsel
  intro n
  induction n with
  | zero =>
    intro l a w hTS _ hr hy H
    refine ⟨fun h => absurd (h ▸ hr) (List.not_mem_nil), fun j hj => ?_⟩
    rcases Decidable.em (j = i) with rfl | hji
    · rcases hTS with ⟨h1, h2⟩ | ⟨h1, h2, h3⟩
      · exact hy.wpOp hi (h2 w) ⟨fun h => (by rw [h1] at h; cases h), H⟩
      · exact hy.wpOp hi (h2 w h3) ⟨fun _ => h3, H⟩
    · exact absurd (H.1 ▸ ready_mono hj hji) (List.not_mem_nil)
  | succ n ih =>
    intro l a w hTS hf hr hy H
    refine ⟨fun h => absurd (h ▸ hr) (List.not_mem_nil), fun j hj => ?_⟩
    rcases Decidable.em (j = i) with rfl | hji
    · rcases hTS with ⟨h1, h2⟩ | ⟨h1, h2, h3⟩
      · exact hy.wpOp hi (h2 w) ⟨fun h => (by rw [h1] at h; cases h), H⟩
      · exact hy.wpOp hi (h2 w h3) ⟨fun _ => h3, H⟩
    obtain ⟨jun, oj, hoj, hall⟩ := mem_ready.1 hj
    have iun := (mem_ready.1 hr).1
    have hno : ∀ e ∈ oj.after, Region.binds md e = true → e.on ≠ i := by
      rintro e he hb rfl
      have h1 := hall e he hb
      by_cases hs : e.on < l.size
      · simp [Array.getD, hs] at h1 iun; rw [h1] at iun; cases iun
      · simp [Array.getD, hs] at h1
    have key := wpOp_putIf hoj (Region.free_spec hi hf j oj hoj hji jun hno) (fun cs b => ns i oi cs b hi) (fun cs b => ns j oj cs b hoj) hQ hy (H.2 j (ready_mono hj hji))
    refine wpOp_mono (fun b u k => ⟨k.2.1, ?_⟩) key
    refine ih _ b u (hTS.imp id (fun h => ⟨lateX_more h.1 (lateX_not h.1 iun hj), h.2.1, k.2.1 (lateX_X h.1 iun hj)⟩)) (free_more hf) (ready_mono hr (Ne.symm hji)) k.1 ?_
    rw [Array.setIfInBounds_comm _ _ hji]
    exact k.2.2

/-- One that is wanted and reads nothing that S speaks of, or reads what S says. -/
theorem GoesX.take (i d : Nat) (R : List Nat) {v : Value} {oi : Oper} {n : Nat} {l : Array Bool} {a b : Act} {w : World} (hS : S w) (hi : ops[i]? = some oi := by rfl) (hd : oi.dst = some d := by rfl)
    (hs : Region.noSelect ops = true := by kernel_rfl) (hf : Region.free md ops l i = true := by kernel_rfl) (hr : (Region.ready md ops l).contains i = true := by kernel_rfl) (hl : lateX md ops X R l i = true := by kernel_rfl)
    (hw : Region.wanted oi (yielded ops a.tmps) = true := by rfl) (hy : ∀ w, S w → (execOp a.eval oi).run P w = .ok (.value v) w := by (intro w hSw; (try dsimp only at hSw); go_simp; (try with_reducible rfl)))
    (hQ : ∀ c a w, Q (.panic c) (a.put (some d) v) w → Q (.panic c) a w := by (exact (fun _ _ _ h => h))) (hb : a.put (some d) v = b := by (simp only [Act.put, List.setIfInBounds_toArray, List.set_cons_zero, List.set_cons_succ]; rfl))
    (h : GoesX P md ops Q S X n (l.setIfInBounds i true) b w) : GoesX P md ops Q S X (n + 1) l a w :=
  GoesX.first (T := S) hi hs (by rw [hd]; exact hQ) n l a w (.inr ⟨hl, fun _ h => h, hS⟩) hf (by simpa using hr) (.inl ⟨hw, hy⟩) (by rw [hd, hb]; exact h)
/-- One of X, that yields in whatever world. -/
theorem GoesX.takeX (i d : Nat) {v : Value} {oi : Oper} {n : Nat} {l : Array Bool} {a b : Act} {w : World} (hi : ops[i]? = some oi := by rfl) (hd : oi.dst = some d := by rfl)
    (hs : Region.noSelect ops = true := by kernel_rfl) (hf : Region.free md ops l i = true := by kernel_rfl) (hr : (Region.ready md ops l).contains i = true := by kernel_rfl) (hx : X.contains i = true := by kernel_rfl)
    (hw : Region.wanted oi (yielded ops a.tmps) = true := by rfl) (hy : ∀ w, (execOp a.eval oi).run P w = .ok (.value v) w := by (intro w; go_simp; (try with_reducible rfl)))
    (hQ : ∀ c a w, Q (.panic c) (a.put (some d) v) w → Q (.panic c) a w := by (exact (fun _ _ _ h => h))) (hb : a.put (some d) v = b := by (simp only [Act.put, List.setIfInBounds_toArray, List.set_cons_zero, List.set_cons_succ]; rfl))
    (h : GoesX P md ops Q S X n (l.setIfInBounds i true) b w) : GoesX P md ops Q S X (n + 1) l a w :=
  GoesX.first (T := fun _ => True) (R := []) hi hs (by rw [hd]; exact hQ) n l a w (.inl ⟨hx, fun _ => trivial⟩) hf (by simpa using hr) (.inl ⟨hw, fun w _ => hy w⟩) (by rw [hd, hb]; exact h)
/-- One that is not wanted. -/
theorem GoesX.skip (i d : Nat) (R : List Nat) {oi : Oper} {n : Nat} {l : Array Bool} {a b : Act} {w : World} (hS : S w) (hi : ops[i]? = some oi := by rfl) (hd : oi.dst = some d := by rfl)
    (hs : Region.noSelect ops = true := by kernel_rfl) (hf : Region.free md ops l i = true := by kernel_rfl) (hr : (Region.ready md ops l).contains i = true := by kernel_rfl) (hl : lateX md ops X R l i = true := by kernel_rfl)
    (hw : Region.wanted oi (yielded ops a.tmps) = false := by rfl)
    (hQ : ∀ c a w, Q (.panic c) (a.put (some d) undef) w → Q (.panic c) a w := by (exact (fun _ _ _ h => h))) (hb : a.put (some d) undef = b := by (simp only [Act.put, List.setIfInBounds_toArray, List.set_cons_zero, List.set_cons_succ]; rfl))
    (h : GoesX P md ops Q S X n (l.setIfInBounds i true) b w) : GoesX P md ops Q S X (n + 1) l a w :=
  GoesX.first (T := S) hi hs (by rw [hd]; exact hQ) n l a w (.inr ⟨hl, fun _ h => h, hS⟩) hf (by simpa using hr) (.inr ⟨hw, rfl⟩) (by rw [hd, hb]; exact h)

/-- Each of these comes up next. -/
def EachX (P : Program) (md : Region.Mode) (ops : Array Oper) (Q : Exit → Act → World → Prop) (S : World → Prop) (X : List Nat) (n : Nat) (l : Array Bool) (a : Act) (w : World) (rs : List Nat) : Prop :=
  ∀ i, i ∈ rs → wpOp P ops Q i (fun b v => (X.contains i = false → S v) ∧ GoesX P md ops Q S X n (l.setIfInBounds i true) b v) a w
theorem EachX.nil {n : Nat} {l : Array Bool} {a : Act} {w : World} : EachX P md ops Q S X n l a w [] := fun _ h => absurd h List.not_mem_nil
theorem EachX.put {n : Nat} {l : Array Bool} {a : Act} {w : World} {i : Nat} {o : Oper} {rs : List Nat} (ho : ops[i]? = some o) 
    (h : ∀ K : Act → World → Prop, Shut (∀ b v, (X.contains i = false → S v) → GoesX P md ops Q S X n (l.setIfInBounds i true) b v → K b v) → if Region.wanted o (yielded ops a.tmps) = true then Oper.wp P o a w K Q else K (a.put o.dst undef) w)
    (hs : EachX P md ops Q S X n l a w rs) : EachX P md ops Q S X n l a w (i :: rs) := fun j hj => by
  rcases List.mem_cons.1 hj with rfl | hj
  · exact wpOp_step ho (fun K hK => h K (fun b v h1 h2 => hK b v ⟨h1, h2⟩))
  · exact hs j hj
/-- One behind which S is to be shown; it is handed on. -/
theorem EachX.cons {n : Nat} {l : Array Bool} {a : Act} {w : World} {i : Nat} {o : Oper} {rs : List Nat} (ho : ops[i]? = some o)
    (h : ∀ K : Act → World → Prop, Shut (∀ b v, S v → (S v → GoesX P md ops Q S X n (l.setIfInBounds i true) b v) → K b v) → if Region.wanted o (yielded ops a.tmps) = true then Oper.wp P o a w K Q else K (a.put o.dst undef) w)
    (hs : EachX P md ops Q S X n l a w rs) : EachX P md ops Q S X n l a w (i :: rs) :=
  EachX.put ho (fun K hK => h K (fun b v hS hG => hK b v (fun _ => hS) (hG hS))) hs
/-- One of X. -/
theorem EachX.last {n : Nat} {l : Array Bool} {a : Act} {w : World} {i : Nat} {o : Oper} {rs : List Nat} (ho : ops[i]? = some o) (hx : X.contains i = true)
    (h : ∀ K : Act → World → Prop, Shut (∀ b v, GoesX P md ops Q S X n (l.setIfInBounds i true) b v → K b v) → if Region.wanted o (yielded ops a.tmps) = true then Oper.wp P o a w K Q else K (a.put o.dst undef) w)
    (hs : EachX P md ops Q S X n l a w rs) : EachX P md ops Q S X n l a w (i :: rs) :=
  EachX.put ho (fun K hK => h K (fun b v hG => hK b v (fun h => by rw [hx] at h; cases h) hG)) hs
theorem GoesX.ready {rs : List Nat} {n : Nat} {l : Array Bool} {a : Act} {w : World} (hr : Region.ready md ops l = rs) (hne : rs ≠ []) (h : EachX P md ops Q S X n l a w rs) : GoesX P md ops Q S X (n + 1) l a w :=
  ⟨fun h0 => absurd (hr ▸ h0) hne, fun i hi => h i (hr ▸ hi)⟩
theorem GoesX.done {l : Array Bool} {a : Act} {w : World} (hr : Region.ready md ops l = []) (h : Q .normal a w) : ∀ n, GoesX P md ops Q S X n l a w
  | 0 => ⟨hr, h⟩
  | _ + 1 => ⟨fun _ => h, fun i hi => absurd (hr ▸ hi) List.not_mem_nil⟩
/-- One way on. -/
theorem GoesX.one (i : Nat) {o : Oper} {n : Nat} {l : Array Bool} {a : Act} {w : World} (hr : Region.ready md ops l = [i] := by kernel_rfl) (ho : ops[i]? = some o := by rfl)
    (h : ∀ K : Act → World → Prop, Shut (∀ b v, S v → (S v → GoesX P md ops Q S X n (l.setIfInBounds i true) b v) → K b v) → if Region.wanted o (yielded ops a.tmps) = true then Oper.wp P o a w K Q else K (a.put o.dst undef) w) : GoesX P md ops Q S X (n + 1) l a w :=
  GoesX.ready hr (by simp) (EachX.cons ho h EachX.nil)
/-- One way on, of X. -/
theorem GoesX.oneX (i : Nat) {o : Oper} {n : Nat} {l : Array Bool} {a : Act} {w : World} (hr : Region.ready md ops l = [i] := by kernel_rfl) (ho : ops[i]? = some o := by rfl) (hx : X.contains i = true := by kernel_rfl)
    (h : ∀ K : Act → World → Prop, Shut (∀ b v, GoesX P md ops Q S X n (l.setIfInBounds i true) b v → K b v) → if Region.wanted o (yielded ops a.tmps) = true then Oper.wp P o a w K Q else K (a.put o.dst undef) w) : GoesX P md ops Q S X (n + 1) l a w :=
  GoesX.ready hr (by simp) (EachX.last ho hx h EachX.nil)
/-- Behind an operation: S, the state written out, and the rest. -/
theorem outS {n : Nat} {l : Array Bool} {a b : Act} {w : World} {K : Act → World → Prop} (hK : Shut (∀ b v, S v → (S v → GoesX P md ops Q S X n l b v) → K b v)) (hS : S w)
    (hb : a = b := by first | rfl | (simp only [Act.put, List.getElem_toArray, List.getElem_cons_succ, List.getElem_cons_zero, List.setIfInBounds_toArray, List.set_cons_zero, List.set_cons_succ]; rfl)) (h : S w → GoesX P md ops Q S X n l b w) : K a w := by
  subst hb; exact hK.out _ _ hS h
theorem outX {n : Nat} {l : Array Bool} {a b : Act} {w : World} {K : Act → World → Prop} (hK : Shut (∀ b v, GoesX P md ops Q S X n l b v → K b v))
    (hb : a = b := by first | rfl | (simp only [Act.put, List.getElem_toArray, List.getElem_cons_succ, List.getElem_cons_zero, List.setIfInBounds_toArray, List.set_cons_zero, List.set_cons_succ]; rfl)) (h : GoesX P md ops Q S X n l b w) : K a w := by
  subst hb; exact hK.out _ _ h
theorem wp_regionX (X : List Nat) {id : Nat} {a : Act} {w : World} (hS : S w.drew)
    (h : S w.drew → GoesX P .any ops Q S X ops.size (Array.replicate ops.size false) a w.drew) (hm : P.follows .mixedOrders = true := by kernel_rfl) : (Code.region id ops true).wp P Q a w := wp_region_any hm (GoesX.any (h hS))
end
theorem hdH {p : Prop} (h : p := by ((try dsimp only); (first | with_reducible assumption | with_reducible exact Held.start _ | with_reducible exact Held.of (by assumption) | with_reducible exact Held.ex (by assumption) (by assumption) | ((repeat (first | with_reducible refine Held.set ?_ (by simp only [zA, zC, zD, zN]; omega) | with_reducible refine Held.alloc ?_ _ | with_reducible refine Held.drew ?_)); (first | with_reducible assumption | with_reducible exact Held.refl _ | with_reducible exact Held.of (by assumption) | with_reducible exact Held.ex (by assumption) (by assumption))) | exact Held.of (by exact ext_)))) : p := h
theorem hdR {p : Prop} (h : p := by ((try dsimp only); (first | assumption | exact HeldR.of (by assumption) | exact HeldR.start _ _ | exact HeldR.ch (by assumption) (by assumption) | exact HeldR.ex (by assumption) (by assumption) | exact HeldR.alloc (by assumption) _ | exact HeldR.set (by assumption) (by simp only [zA, zC, zD, zN]; omega)))) : p := h
end Go.Proofs.Ytdbnbembjebfhaa


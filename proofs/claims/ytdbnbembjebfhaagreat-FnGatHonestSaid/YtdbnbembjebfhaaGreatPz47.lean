/-
  Texts joined: GShowI, Plain10, Plain11.
-/
import Derived.Test.YtdbnbembjebfhaaGreatPz34
import Derived.Test.YtdbnbembjebfhaaGreatPz46
import Derived.Test.YtdbnbembjebfhaaGreatPz7
import Derived.Test.YtdbnbembjebfhaaGreatPz26
namespace Go.Proofs.YtdbnbembjebfhaaGreat
set_option maxRecDepth 100000
set_option linter.unusedSimpArgs false
set_option linter.unusedVariables false
open Go.RowKit Go
set_option maxHeartbeats 2000000

theorem gatOk_doneI {h : Sw.Head} {xs : List Int} (k : Sw.gatOk ⟨h, xs⟩ = true) : xs.Pairwise (· < ·) := by
  simp only [Sw.gatOk, Bool.and_eq_true] at k
  exact ((Sw.rises_iff xs (-1)).1 k.2).2
theorem iGatShow_c (t : Sw.Head) (A : Option Addr) (c n : Nat) (xs : List Int) (k who : Int) (r : Sw.Row) (B : Option Addr) (d m : Nat) (ps : List Int) (w : World) (hxs : RI w 0 A c n xs) (hps : RI w 0 B d m ps) : Calls Tryz.prog 12 #[.agg #[.int .i64 t.size, .int .i64 t.log, .int .i64 t.own, .slice A n c], .int .i64 k, .int .i64 who, .agg #[.int .i64 r.who, .int .i64 r.face, .bool r.used], .slice B m d] w fun E w' => ∃ A' c' n', E = .returned (.tuple #[.agg #[.int .i64 (Sw.gatShow ⟨t, xs⟩ k who r ps).1.head.size, .int .i64 (Sw.gatShow ⟨t, xs⟩ k who r ps).1.head.log, .int .i64 (Sw.gatShow ⟨t, xs⟩ k who r ps).1.head.own, .slice A' n' c'], .bool (Sw.gatShow ⟨t, xs⟩ k who r ps).2]) ∧ OwI w' w.heap.size A' c' n' (Sw.gatShow ⟨t, xs⟩ k who r ps).1.done ∧ Ex w w' := by
  obtain ⟨rh, rf, ru⟩ := r
  have hl := Lib.hid hxs.1
  cases g1 : Sw.gatOk ⟨t, xs⟩
  case false =>
    have e : Sw.gatShow ⟨t, xs⟩ k who ⟨rh, rf, ru⟩ ps = (Sw.gateZ, false) := by simp [Sw.gatShow, g1]
    have He := Lib.hid e; clear e
    go_enter Tryz.func12, Tryz.ntmps12
    go_wp2_with (first | (go_at_call 50; apply Calls.mono; apply iGatOk_c; ((first | (apply Rs.at0; assumption) | (apply Ow.rs0; assumption) | (apply OwT.rs0; assumption)); exact kf_); rintro E w1 ⟨rfl, hb⟩; have hst := xr hb; (try simp only [zA, zC, zD, zN] at hst); obtain ⟨hc, hf, hz⟩ := hst))
    refine bodyPost_ret (v := .tuple #[.agg #[.int .i64 0, .int .i64 0, .int .i64 0, .slice none 0 0], .bool false]) (by simp [results, Tryz.results12, go_sem, *]) rfl ?_
    exact ⟨none, 0, 0, by rw [He.out]; rfl, by rw [He.out]; exact Ow.nil _ _, ext_⟩
  have h8 : n ≤ 8 := by have := gatOk_len g1; have := hl.out; simp at *; omega
  cases g2 : Sw.inR who 1 5
  case false =>
    have e : Sw.gatShow ⟨t, xs⟩ k who ⟨rh, rf, ru⟩ ps = (⟨t, xs⟩, false) := by unfold Sw.gatShow; rw [if_pos g1, if_neg (by simp [Sw.gatMay, g2])]
    have He := Lib.hid e; clear e
    go_enter Tryz.func12, Tryz.ntmps12
    go_wp2_with (first | (go_at_call 50; apply Calls.mono; apply iGatOk_c; ((first | (apply Rs.at0; assumption) | (apply Ow.rs0; assumption) | (apply OwT.rs0; assumption)); exact kf_); rintro E w1 ⟨rfl, hb⟩; have hst := xr hb; (try simp only [zA, zC, zD, zN] at hst); obtain ⟨hc, hf, hz⟩ := hst) | (go_at_call 51; apply Calls.mono; apply iClone_c; ((first | (apply Rs.at0; assumption) | (apply Ow.rs0; assumption) | (apply OwT.rs0; assumption)); exact kf_); (first | assumption | omega); rintro E w1 ⟨A', c', rfl, hr, hb⟩; have hst := xr hb; (try simp only [zA, zC, zD, zN] at hst); obtain ⟨hc, hf, hz⟩ := hst) | (go_at_call 52; refine (isUser_c _ _).mono ?_; rintro E w' ⟨rfl, rfl⟩) | (go_at_call 53; apply Calls.mono; apply iContains_c; (apply Rs.at0 hxs; (exact kf_)); rintro E w' ⟨rfl, rfl⟩) | (go_at_call 54; apply Calls.mono; apply iOwnCheckA_c; (apply Rs.at0 hps; (exact kf_)); rintro E wq ⟨rfl, hbq⟩; have hst := xr hbq; (try simp only [zA, zC, zD, zN] at hst); obtain ⟨hcq, hfq, hzq⟩ := hst))
    refine bodyPost_ret (v := .tuple #[.agg #[.int .i64 t.size, .int .i64 t.log, .int .i64 t.own, .slice A' n c'], .bool false]) (by simp [results, Tryz.results12, go_sem, *]) rfl ?_
    exact ⟨A', c', n, by rw [He.out], by rw [He.out]; exact (hr.keep (by (exact kf_))).less (by exact sz_), ext_⟩
  by_cases h3 : who = rh
  case neg =>
    have g3 : (who != rh) = true := by rw [bne_iff_ne]; exact h3
    have H3 := Lib.hid h3; clear h3
    have e : Sw.gatShow ⟨t, xs⟩ k who ⟨rh, rf, ru⟩ ps = (⟨t, xs⟩, false) := by unfold Sw.gatShow; rw [if_pos g1, if_neg (by simp [Sw.gatMay, H3.out])]
    have He := Lib.hid e; clear e
    go_enter Tryz.func12, Tryz.ntmps12
    go_wp2_with (first | (go_at_call 50; apply Calls.mono; apply iGatOk_c; ((first | (apply Rs.at0; assumption) | (apply Ow.rs0; assumption) | (apply OwT.rs0; assumption)); exact kf_); rintro E w1 ⟨rfl, hb⟩; have hst := xr hb; (try simp only [zA, zC, zD, zN] at hst); obtain ⟨hc, hf, hz⟩ := hst) | (go_at_call 51; apply Calls.mono; apply iClone_c; ((first | (apply Rs.at0; assumption) | (apply Ow.rs0; assumption) | (apply OwT.rs0; assumption)); exact kf_); (first | assumption | omega); rintro E w1 ⟨A', c', rfl, hr, hb⟩; have hst := xr hb; (try simp only [zA, zC, zD, zN] at hst); obtain ⟨hc, hf, hz⟩ := hst) | (go_at_call 52; refine (isUser_c _ _).mono ?_; rintro E w' ⟨rfl, rfl⟩) | (go_at_call 53; apply Calls.mono; apply iContains_c; (apply Rs.at0 hxs; (exact kf_)); rintro E w' ⟨rfl, rfl⟩) | (go_at_call 54; apply Calls.mono; apply iOwnCheckA_c; (apply Rs.at0 hps; (exact kf_)); rintro E wq ⟨rfl, hbq⟩; have hst := xr hbq; (try simp only [zA, zC, zD, zN] at hst); obtain ⟨hcq, hfq, hzq⟩ := hst))
    refine bodyPost_ret (v := .tuple #[.agg #[.int .i64 t.size, .int .i64 t.log, .int .i64 t.own, .slice A' n c'], .bool false]) (by simp [results, Tryz.results12, go_sem, *]) rfl ?_
    exact ⟨A', c', n, by rw [He.out], by rw [He.out]; exact (hr.keep (by (exact kf_))).less (by exact sz_), ext_⟩
  subst h3
  cases ru
  case true =>
    have e : Sw.gatShow ⟨t, xs⟩ k who ⟨who, rf, true⟩ ps = (⟨t, xs⟩, false) := by unfold Sw.gatShow; rw [if_pos g1, if_neg (by simp [Sw.gatMay])]
    have He := Lib.hid e; clear e
    go_enter Tryz.func12, Tryz.ntmps12
    go_wp2_with (first | (go_at_call 50; apply Calls.mono; apply iGatOk_c; ((first | (apply Rs.at0; assumption) | (apply Ow.rs0; assumption) | (apply OwT.rs0; assumption)); exact kf_); rintro E w1 ⟨rfl, hb⟩; have hst := xr hb; (try simp only [zA, zC, zD, zN] at hst); obtain ⟨hc, hf, hz⟩ := hst) | (go_at_call 51; apply Calls.mono; apply iClone_c; ((first | (apply Rs.at0; assumption) | (apply Ow.rs0; assumption) | (apply OwT.rs0; assumption)); exact kf_); (first | assumption | omega); rintro E w1 ⟨A', c', rfl, hr, hb⟩; have hst := xr hb; (try simp only [zA, zC, zD, zN] at hst); obtain ⟨hc, hf, hz⟩ := hst) | (go_at_call 52; refine (isUser_c _ _).mono ?_; rintro E w' ⟨rfl, rfl⟩) | (go_at_call 53; apply Calls.mono; apply iContains_c; (apply Rs.at0 hxs; (exact kf_)); rintro E w' ⟨rfl, rfl⟩) | (go_at_call 54; apply Calls.mono; apply iOwnCheckA_c; (apply Rs.at0 hps; (exact kf_)); rintro E wq ⟨rfl, hbq⟩; have hst := xr hbq; (try simp only [zA, zC, zD, zN] at hst); obtain ⟨hcq, hfq, hzq⟩ := hst))
    refine bodyPost_ret (v := .tuple #[.agg #[.int .i64 t.size, .int .i64 t.log, .int .i64 t.own, .slice A' n c'], .bool false]) (by simp [results, Tryz.results12, go_sem, *]) rfl ?_
    exact ⟨A', c', n, by rw [He.out], by rw [He.out]; exact (hr.keep (by (exact kf_))).less (by exact sz_), ext_⟩
  cases g5 : hasI xs k
  case true =>
    have H5 := Lib.hid (show k ∈ xs by simpa [hasI] using g5)
    have e : Sw.gatShow ⟨t, xs⟩ k who ⟨who, rf, false⟩ ps = (⟨t, xs⟩, false) := by unfold Sw.gatShow; rw [if_pos g1, if_neg (by simp [Sw.gatMay, H5.out])]
    have He := Lib.hid e; clear e
    go_enter Tryz.func12, Tryz.ntmps12
    go_wp2_with (first | (go_at_call 50; apply Calls.mono; apply iGatOk_c; ((first | (apply Rs.at0; assumption) | (apply Ow.rs0; assumption) | (apply OwT.rs0; assumption)); exact kf_); rintro E w1 ⟨rfl, hb⟩; have hst := xr hb; (try simp only [zA, zC, zD, zN] at hst); obtain ⟨hc, hf, hz⟩ := hst) | (go_at_call 51; apply Calls.mono; apply iClone_c; ((first | (apply Rs.at0; assumption) | (apply Ow.rs0; assumption) | (apply OwT.rs0; assumption)); exact kf_); (first | assumption | omega); rintro E w1 ⟨A', c', rfl, hr, hb⟩; have hst := xr hb; (try simp only [zA, zC, zD, zN] at hst); obtain ⟨hc, hf, hz⟩ := hst) | (go_at_call 52; refine (isUser_c _ _).mono ?_; rintro E w' ⟨rfl, rfl⟩) | (go_at_call 53; apply Calls.mono; apply iContains_c; (apply Rs.at0 hxs; (exact kf_)); rintro E w' ⟨rfl, rfl⟩) | (go_at_call 54; apply Calls.mono; apply iOwnCheckA_c; (apply Rs.at0 hps; (exact kf_)); rintro E wq ⟨rfl, hbq⟩; have hst := xr hbq; (try simp only [zA, zC, zD, zN] at hst); obtain ⟨hcq, hfq, hzq⟩ := hst))
    refine bodyPost_ret (v := .tuple #[.agg #[.int .i64 t.size, .int .i64 t.log, .int .i64 t.own, .slice A' n c'], .bool false]) (by simp [results, Tryz.results12, go_sem, *]) rfl ?_
    exact ⟨A', c', n, by rw [He.out], by rw [He.out]; exact (hr.keep (by (exact kf_))).less (by exact sz_), ext_⟩
  have H5 := Lib.hid (show k ∉ xs by simpa [hasI] using g5)
  cases g6 : Sw.ownCheck t.own k ⟨who, rf, false⟩ ps
  case false =>
    have e : Sw.gatShow ⟨t, xs⟩ k who ⟨who, rf, false⟩ ps = (⟨t, xs⟩, false) := by unfold Sw.gatShow; rw [if_pos g1, if_neg (by simp [Sw.gatMay, g6])]
    have He := Lib.hid e; clear e
    go_enter Tryz.func12, Tryz.ntmps12
    go_wp2_with (first | (go_at_call 50; apply Calls.mono; apply iGatOk_c; ((first | (apply Rs.at0; assumption) | (apply Ow.rs0; assumption) | (apply OwT.rs0; assumption)); exact kf_); rintro E w1 ⟨rfl, hb⟩; have hst := xr hb; (try simp only [zA, zC, zD, zN] at hst); obtain ⟨hc, hf, hz⟩ := hst) | (go_at_call 51; apply Calls.mono; apply iClone_c; ((first | (apply Rs.at0; assumption) | (apply Ow.rs0; assumption) | (apply OwT.rs0; assumption)); exact kf_); (first | assumption | omega); rintro E w1 ⟨A', c', rfl, hr, hb⟩; have hst := xr hb; (try simp only [zA, zC, zD, zN] at hst); obtain ⟨hc, hf, hz⟩ := hst) | (go_at_call 52; refine (isUser_c _ _).mono ?_; rintro E w' ⟨rfl, rfl⟩) | (go_at_call 53; apply Calls.mono; apply iContains_c; (apply Rs.at0 hxs; (exact kf_)); rintro E w' ⟨rfl, rfl⟩) | (go_at_call 54; apply Calls.mono; apply iOwnCheckA_c; (apply Rs.at0 hps; (exact kf_)); rintro E wq ⟨rfl, hbq⟩; have hst := xr hbq; (try simp only [zA, zC, zD, zN] at hst); obtain ⟨hcq, hfq, hzq⟩ := hst))
    refine bodyPost_ret (v := .tuple #[.agg #[.int .i64 t.size, .int .i64 t.log, .int .i64 t.own, .slice A' n c'], .bool false]) (by simp [results, Tryz.results12, go_sem, *]) rfl ?_
    exact ⟨A', c', n, by rw [He.out], by rw [He.out]; exact (hr.keep (by (exact kf_))).less (by exact sz_), ext_⟩
  have e : Sw.gatShow ⟨t, xs⟩ k who ⟨who, rf, false⟩ ps = (⟨t, Sw.insert k xs⟩, true) := by unfold Sw.gatShow; rw [if_pos g1, if_pos (by simp [Sw.gatMay, g2, H5.out, g6])]
  have He := Lib.hid e; clear e
  have HS := Lib.hid (gatOk_doneI g1)
  go_enter Tryz.func12, Tryz.ntmps12
  go_wp2_with (first | (have _ := ho3; (go_at_call 51; apply Calls.mono; apply iClone_c; ((first | (apply Rs.at0; assumption) | (apply Ow.rs0; assumption) | (apply OwT.rs0; assumption)); exact kf_); (first | assumption | omega); rintro E w1 ⟨AZ, cZ, rfl, hrZ, hb⟩; have hst := xr hb; (try simp only [zA, zC, zD, zN] at hst); obtain ⟨hc, hf, hz⟩ := hst)) | (go_at_call 50; apply Calls.mono; apply iGatOk_c; (first | assumption | ((first | (apply Rs.at0; assumption) | (apply Ow.rs0; assumption) | (apply OwT.rs0; assumption)); exact kf_) | omega); rintro E wg ⟨rfl, hbg⟩; have hst := xr hbg; (try simp only [zA, zC, zD, zN] at hst); obtain ⟨hcg, hfg, hzg⟩ := hst) | (go_at_call 51; apply Calls.mono; apply iClone_c; ((first | (apply Rs.at0; assumption) | (apply Ow.rs0; assumption) | (apply OwT.rs0; assumption)); exact kf_); omega; rintro E wc ⟨A', c', rfl, hr, hb1⟩; have hst := xr hb1; (try simp only [zA, zC, zD, zN] at hst); obtain ⟨hc1, hf1, hz1⟩ := hst) | (go_at_call 52; refine (isUser_c _ _).mono ?_; rintro E w' ⟨rfl, rfl⟩) | (go_at_call 53; apply Calls.mono; apply iContains_c; (apply Rs.at0 hxs; (exact kf_)); rintro E w' ⟨rfl, rfl⟩) | (go_at_call 54; apply Calls.mono; apply iOwnCheckA_c; (apply Rs.at0 hps; (exact kf_)); rintro E wq ⟨rfl, hbq⟩; have hst := xr hbq; (try simp only [zA, zC, zD, zN] at hst); obtain ⟨hcq, hfq, hzq⟩ := hst) | (at_builtin; apply wpList_app (lo := wg.heap.size) el_I one_I rfl rfl rfl rfl; (exact Ow.keep hr kf_); (refine Rs.new [k] (by (first | rfl | (simp only [zA, zC, zD, zN]; done) | omega)) rfl rfl (fun _ => rfl) (by omega)); omega; (exact sz_); intro A1 c1 w2 ho1 hch1 hat1 hex1 hlow1; have hb2 := hex1 (fun _ => False) w ext_ sz_; obtain ⟨hB0, hF0⟩ := Ch.atA_keep hch1 (g := wc.heap.size) sz_ (Ow.apart hr (Nat.le_refl _)); obtain ⟨hc2, hf2⟩ := low_rules hlow1; have hz2 := hch1.size; (try simp only [zA, zC, zD, zN] at hz2); have hA1 : ∀ a, A1 = some a → a.block ≠ wc.heap.size := (fun a ha => by rcases hat1 a ha with e | e; (exact Ow.apart hr (Nat.le_refl _) a e); (simp only [zA, zC, zD, zN] at e; omega))) | (go_at_call 55; apply Calls.mono; apply (iSort_c (lo := wg.heap.size)); (exact ho1.keep_ fun a ha => (Ch.setCell (S := (· = wc.heap.size)) (Ch.refl _ _) (Or.inl rfl) _).block a.block (ho1.blk ha).2 (hA1 a ha)); omega; omega; rintro E w3 ⟨rfl, ho3, hch3⟩; rw [sort_insert HS.out H5.out] at ho3; obtain ⟨hB3, hF3⟩ := Ch.atA_keep hch3 (g := wc.heap.size) sz_ hA1; obtain ⟨hB4, hF4⟩ := Ch.atA_keep hch3 (g := w.heap.size + 1 + 1) sz_ (fun a ha => by have := (ho1.blk ha).1; omega); have hz3 := hch3.size; (try simp only [zA, zC, zD, zN] at hz3)))
  refine bodyPost_ret (v := .tuple #[.agg #[.int .i64 t.size, .int .i64 t.log, .int .i64 t.own, .slice AZ (n + 1) cZ], .bool true]) (by simp [results, Tryz.results12, go_sem, *]) rfl ?_
  have hS : ∀ i, atA A1 i → w.heap.size ≤ i := fun i ⟨a, ha, e⟩ => by have := (ho1.blk ha).1; omega
  have hb3 : Ch (fun _ => False) w w3 := (show Ch (fun _ => False) w (w2.setCell ⟨wc.heap.size, 3, none⟩ (.slice A1 (n + 1) c1)) from ext_).trans' hch3 (fun i hi ht => by have := hS i ht; omega)
  exact ⟨AZ, cZ, n + 1, by rw [He.out], by rw [He.out]; exact (hrZ.keep kf_).less sz_, ext_⟩
end Go.Proofs.YtdbnbembjebfhaaGreat

namespace Go.Proofs.YtdbnbembjebfhaaGreat.Sw
set_option maxRecDepth 100000
set_option linter.unusedSimpArgs false
set_option linter.unusedVariables false
open Go.RowKit (wrap64)

theorem gatShow_bad {g : Gate} {t who : Int} {r : Row} {p : List Int} (h : gatOk g = false) : gatShow g t who r p = (gateZ, false) := by
  unfold gatShow; rw [h]; rfl
theorem gatShow_no {g : Gate} {t who : Int} {r : Row} {p : List Int} (h : gatOk g = true) (hm : gatMay g t who r p = false) : gatShow g t who r p = (g, false) := by
  unfold gatShow; rw [if_pos h, if_neg (by rw [hm]; simp)]
theorem gatShow_yes {g : Gate} {t who : Int} {r : Row} {p : List Int} (h : gatOk g = true) (hm : gatMay g t who r p = true) : gatShow g t who r p = (⟨g.head, insert t g.done⟩, true) := by
  unfold gatShow; rw [if_pos h, if_pos hm]
theorem gatMay_parts (g : Gate) (t who : Int) (r : Row) (p : List Int) : gatMay g t who r p = (inR who 1 5 && decide (who = r.who) && !r.used && !decide (t ∈ g.done) && ownCheck g.head.own t r p) := by
  unfold gatMay
  rw [List.contains_eq_mem]
/-- Who has gone through does not again. -/
theorem gatShow_again {g : Gate} {t who : Int} {r : Row} {p : List Int} (h : gatOk g = true) (hm : gatMay g t who r p = true) :
    gatOk ⟨g.head, insert t g.done⟩ = true ∧ gatShow ⟨g.head, insert t g.done⟩ t who r p = (⟨g.head, insert t g.done⟩, false) ∧ t ∈ insert t g.done := by
  have h1 := gatShow_ok (t := t) (who := who) (r := r) (p := p) h
  rw [gatShow_yes h hm] at h1
  have h2 : t ∈ insert t g.done := insert_mem.2 (.inl rfl)
  refine ⟨h1, gatShow_no h1 ?_, h2⟩
  rw [gatMay_parts]
  simp [h2]
end Go.Proofs.YtdbnbembjebfhaaGreat.Sw

namespace Go.Proofs.YtdbnbembjebfhaaGreat.Sw
set_option maxRecDepth 100000
set_option linter.unusedSimpArgs false
set_option linter.unusedVariables false
open Go.RowKit (wrap64)

/-- Two pairs that differ and mix to the same, where a proof, from its end, shows a leaf that is not there. -/
def clashR : Nat → List Int → Nat → Int → List Int → Option (Int × Int × Int × Int)
  | 0, _, _, _, _ => none
  | N + 1, l, i, leaf, rev =>
    if l.length ≤ 1 then none
    else match rev with
    | [] => none
    | last :: rest =>
      if i < split l.length then
        if (upR (split l.length) i leaf rest).1 = root (l.take (split l.length)) ∧ last = root (l.drop (split l.length)) then clashR N (l.take (split l.length)) i leaf rest
        else some ((upR (split l.length) i leaf rest).1, last, root (l.take (split l.length)), root (l.drop (split l.length)))
      else
        if last = root (l.take (split l.length)) ∧ (upR (l.length - split l.length) (i - split l.length) leaf rest).1 = root (l.drop (split l.length)) then clashR N (l.drop (split l.length)) (i - split l.length) leaf rest
        else some (last, (upR (l.length - split l.length) (i - split l.length) leaf rest).1, root (l.take (split l.length)), root (l.drop (split l.length)))
theorem mixOk_zero : mixOk 0 = true := rfl
theorem upR_mix : ∀ (rev : List Int) (n i : Nat) (leaf : Int), mixOk leaf = true → rev.all mixOk = true → mixOk (upR n i leaf rev).1 = true
  | [], n, i, leaf, hl, _ => by
    rw [upR]
    split
    · exact hl
    · exact mixOk_zero
  | last :: rest, n, i, leaf, hl, hr => by
    rw [upR]
    split
    · exact hl
    · split
      · exact pair_mix _ _
      · exact pair_mix _ _
theorem mixPair_of {a b : Int} (ha : mixOk a = true) (hb : mixOk b = true) : mixPair a b = pair a b := by
  unfold mixPair
  rw [ha, hb]
  rfl
theorem clash_found : ∀ (N : Nat) (l : List Int) (i : Nat) (leaf : Int) (rev : List Int), l.length ≤ N → 1 ≤ l.length → i < l.length → upR l.length i leaf rev = (root l, true) → l.getD i 0 ≠ leaf →
    l.all mixOk = true → mixOk leaf = true → rev.all mixOk = true → ∃ a b c d, clashR N l i leaf rev = some (a, b, c, d) ∧ (a ≠ c ∨ b ≠ d) ∧ mixPair a b = mixPair c d
  | 0, l, i, leaf, rev, h0, h1, _, _, _, _, _, _ => by omega
  | N + 1, l, i, leaf, rev, h0, h1, hi, hu, hne, hl, hm, hr => by
    by_cases h2 : l.length ≤ 1
    · exfalso
      match l, h1, h2 with
      | [x], _, _ =>
        obtain rfl : i = 0 := by simp at hi; omega
        cases rev with
        | nil => rw [upR, if_pos (by simp), root] at hu; simp at hu; simp [hu] at hne
        | cons last rest => rw [upR, if_pos (by simp)] at hu; simp at hu
    · have s1 := split_lt (n := l.length) (by omega)
      have s0 := split_pos l.length
      cases rev with
      | nil => rw [upR, if_neg h2] at hu; simp at hu
      | cons last rest =>
        rw [List.all_cons, Bool.and_eq_true] at hr
        have hrt : mixOk (root (l.take (split l.length))) = true := root_mix _ (all_take hl)
        have hrd : mixOk (root (l.drop (split l.length))) = true := root_mix _ (all_drop hl)
        rw [upR, if_neg h2, root_parts (by omega)] at hu
        rw [clashR, if_neg h2]
        (try dsimp only)
        by_cases hk : i < split l.length
        · rw [if_pos hk] at hu
          rw [if_pos hk]
          have e1 := congrArg Prod.fst hu
          have e2 := congrArg Prod.snd hu
          dsimp only at e1 e2
          have hx := upR_mix rest (split l.length) i leaf hm hr.2
          by_cases hc : (upR (split l.length) i leaf rest).1 = root (l.take (split l.length)) ∧ last = root (l.drop (split l.length))
          · rw [if_pos hc]
            have hlen : (l.take (split l.length)).length = split l.length := by rw [List.length_take]; omega
            refine clash_found N _ i leaf rest (by omega) (by omega) (by omega) ?_ ?_ (all_take hl) hm hr.2
            · rw [hlen]; exact Prod.ext hc.1 e2
            · rw [List.getD_eq_getElem?_getD, List.getElem?_take_of_lt hk, ← List.getD_eq_getElem?_getD]; exact hne
          · rw [if_neg hc]
            refine ⟨_, _, _, _, rfl, ?_, ?_⟩
            · by_cases ha : (upR (split l.length) i leaf rest).1 = root (l.take (split l.length))
              · exact .inr fun hb => hc ⟨ha, hb⟩
              · exact .inl ha
            · rw [mixPair_of hx hr.1, mixPair_of hrt hrd]; exact e1
        · rw [if_neg hk] at hu
          rw [if_neg hk]
          have e1 := congrArg Prod.fst hu
          have e2 := congrArg Prod.snd hu
          dsimp only at e1 e2
          have hx := upR_mix rest (l.length - split l.length) (i - split l.length) leaf hm hr.2
          by_cases hc : last = root (l.take (split l.length)) ∧ (upR (l.length - split l.length) (i - split l.length) leaf rest).1 = root (l.drop (split l.length))
          · rw [if_pos hc]
            have hlen : (l.drop (split l.length)).length = l.length - split l.length := List.length_drop
            refine clash_found N _ (i - split l.length) leaf rest (by omega) (by omega) (by omega) ?_ ?_ (all_drop hl) hm hr.2
            · rw [hlen]; exact Prod.ext hc.2 e2
            · rw [List.getD_eq_getElem?_getD, List.getElem?_drop, ← List.getD_eq_getElem?_getD, show split l.length + (i - split l.length) = i from by omega]; exact hne
          · rw [if_neg hc]
            refine ⟨_, _, _, _, rfl, ?_, ?_⟩
            · by_cases ha : last = root (l.take (split l.length))
              · exact .inr fun hb => hc ⟨ha, hb⟩
              · exact .inl ha
            · rw [mixPair_of hr.1 hx, mixPair_of hrt hrd]; exact e1
/-- What is shown of a ticket, and is not so, gives two pairs away. -/
theorem honest_clash {rows : List Row} (h : ownOk rows = true) {t : Int} (ht : 0 ≤ t ∧ t ≤ 7) {row : Row} {ps : List Int} (hc : ownCheck (ownRoot rows) t row ps = true) (hne : ownLeaf t row ≠ ownLeaf t (rowAt rows t)) :
    ∃ a b c d, clashR 40 (ownLeaves rows) t.toNat (ownLeaf t row) ps.reverse = some (a, b, c, d) ∧ (a ≠ c ∨ b ≠ d) ∧ mixPair a b = mixPair c d := by
  have h8 := ownOk_len h
  have hlen : (ownLeaves rows).length = 8 := by rw [ownLeaves_len, h8]
  unfold ownCheck treCheck at hc
  rw [Bool.and_eq_true] at hc
  have hu := eq_of_beq hc.2
  unfold treUp at hu
  split at hu
  · rename_i hg
    simp only [Bool.and_eq_true] at hg
    have hroot : ownRoot rows = root (ownLeaves rows) := by unfold ownRoot; rw [if_pos h]
    have hok : ps.all mixOk = true := by have := hg.1.2; unfold treOk at this; rw [Bool.and_eq_true] at this; exact this.2
    refine clash_found 40 _ _ _ _ (by omega) (by omega) (by omega) ?_ ?_ (ownLeaves_mix rows) hg.1.1.2 (by rw [List.all_reverse]; exact hok)
    · rw [hlen, ← hroot]
      have e1 := Option.some.inj hu
      exact Prod.ext e1 hg.2
    · have hr := rowAt_get h ht
      have hk := leavesFrom_get rows 0 t.toNat _ hr
      unfold ownLeaves
      rw [List.getD_eq_getElem?_getD, hk]
      simp only [Option.getD_some]
      rw [show (0 : Int) + (t.toNat : Int) = t from by omega]
      exact fun e => hne e.symm
  · cases hu
/-- Who has the ticket goes through under an honest head. -/
theorem honest_in {rows : List Row} (h : ownOk rows = true) {t : Int} (ht : 0 ≤ t ∧ t ≤ 7) {hd : Head} (he : hd.own = ownRoot rows) :
    gatMay ⟨hd, []⟩ t (rowAt rows t).who (rowAt rows t) (ownProof rows t) = (decide (0 < (rowAt rows t).who) && !(rowAt rows t).used) := by
  rw [gatMay_parts]
  dsimp only
  rw [he, own_shows h ht]
  have hr := rowOk_iff.1 (rowAt_ok h t)
  rcases hr with ⟨h1, _, h3⟩ | ⟨h1, _⟩
  · rw [h1, h3]; rfl
  · rw [inR_iff.2 h1, decide_eq_true (show 0 < (rowAt rows t).who by omega)]
    simp
end Go.Proofs.YtdbnbembjebfhaaGreat.Sw


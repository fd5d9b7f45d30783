/- Texts joined: LawTo3, ImpA, LawMk, DrawL, UpS, WldA. -/
import Derived.Test.YtnnoiagommiapaaGreatPz11
import Derived.Test.YtnnoiagommiapaaGreatPz10
import Derived.Test.YtnnoiagommiapaaGreatPz8
import Derived.Test.YtnnoiagommiapaaGreatPz5
import Derived.Test.YtnnoiagommiapaaGreatPz7
import Derived.Test.YtnnoiagommiapaaGreatPz13
import Derived.Test.YtnnoiagommiapaaGreatPz2
import Derived.Deep.DeepMust
set_option maxRecDepth 100000
set_option linter.unusedSimpArgs false
set_option linter.unusedVariables false
namespace Go.Proofs.YtnnoiagommiapaaGreat
open Go.RowKit Go
set_option maxHeartbeats 400000
def tau5 (a b c d : Nat) : Nat → Nat := fun x => if x = a then 1 else if x = b then 2 else if x = c then 3 else if x = d then 4 else 5
section
variable {a b c d e : Nat}
end
section
variable {α : Type} {enc : α → List Value} {sz : Nat} {e : TypeId} {fd fp τ τ' : Nat → Nat} {t : Nat} {w w' : World} {lo lo' c n k : Nat} {A : Option Addr} {xs : List α}
theorem OwT.one {g : Nat} (h : Ow enc sz e w lo (some ⟨g, 0, none⟩) c n xs) (ht : τ g = t) : OwT enc sz e τ t w lo (some ⟨g, 0, none⟩) c n xs := ⟨h, fun a ha => by cases ha; exact ht⟩
theorem OwT.keepF (h : OwT enc sz e τ t w lo A c n xs) (hk : KF lo w w') : OwT enc sz e τ t w' lo A c n xs := h.keep (.of hk)
theorem OwM.keepF {aL : Option Addr} {aLc aLn : Nat} {aP : Option Addr} {aPc aPn : Nat} {aD : Option Addr} {aDc aDn : Nat} {aN : Option Addr} {aNc aNn : Nat} {aS : Option Addr} {aSc aSn : Nat} {m : Sw.Mkt} (h : OwM τ w lo aL aLc aLn aP aPc aPn aD aDc aDn aN aNc aNn aS aSc aSn m) (hk : KF lo w w') : OwM τ w' lo aL aLc aLn aP aPc aPn aD aDc aDn aN aNc aNn aS aSc aSn m := h.keep fun _ _ _ => .of hk
theorem OwG.keepF {gs : List Sw.Gate} (h : OwG fd τ w lo A c n gs) (hk : KF lo w w') : OwG fd τ w' lo A c n gs := h.keep (.of hk) fun _ => .of hk
theorem OwX.keepF {gs : List Sw.Msg} (h : OwX fp τ w lo A c n gs) (hk : KF lo w w') : OwX fp τ w' lo A c n gs := h.keep (.of hk) fun _ => .of hk
theorem OwW.keepF {aF : Option Addr} {aFc aFn : Nat} {aL : Option Addr} {aLc aLn : Nat} {aP : Option Addr} {aPc aPn : Nat} {aD : Option Addr} {aDc aDn : Nat} {aN : Option Addr} {aNc aNn : Nat} {aS : Option Addr} {aSc aSn : Nat} {aI : Option Addr} {aIc aIn : Nat} {aG : Option Addr} {aGc aGn : Nat} {aB : Option Addr} {aBc aBn : Nat} {x : Sw.World} (h : OwW fd fp τ w lo aF aFc aFn aL aLc aLn aP aPc aPn aD aDc aDn aN aNc aNn aS aSc aSn aI aIc aIn aG aGc aGn aB aBc aBn x) (hk : KF lo w w') : OwW fd fp τ w' lo aF aFc aFn aL aLc aLn aP aPc aPn aD aDc aDn aN aNc aNn aS aSc aSn aI aIc aIn aG aGc aGn aB aBc aBn x := ⟨h.1.keepF hk, h.2.keepF hk, h.3.keepF hk, h.4.keepF hk, h.5.keepF hk⟩
theorem OwM.glueL {aL : Option Addr} {aLc aLn : Nat} {aP : Option Addr} {aPc aPn : Nat} {aD : Option Addr} {aDc aDn : Nat} {aN : Option Addr} {aNc aNn : Nat} {aS : Option Addr} {aSc aSn : Nat} {m : Sw.Mkt} (h : OwM τ w lo aL aLc aLn aP aPc aPn aD aDc aDn aN aNc aNn aS aSc aSn m) (hk : w.heap.size ≤ k) : OwM (glue τ k τ') w lo aL aLc aLn aP aPc aPn aD aDc aDn aN aNc aNn aS aSc aSn m := h.retag fun b hb => if_pos (by omega)
theorem OwG.glueL {gs : List Sw.Gate} (h : OwG fd τ w lo A c n gs) (hk : w.heap.size ≤ k) : OwG fd (glue τ k τ') w lo A c n gs := h.retag fun b hb => if_pos (by omega)
theorem OwX.glueL {gs : List Sw.Msg} (h : OwX fp τ w lo A c n gs) (hk : w.heap.size ≤ k) : OwX fp (glue τ k τ') w lo A c n gs := h.retag fun b hb => if_pos (by omega)
theorem OwT.rs0 (h : OwT enc sz e τ t w lo A c n xs) (hk : KF lo w w') : Rs enc sz w' 0 A c n xs := h.rs.at0 hk
theorem OwM.rm0 {aL : Option Addr} {aLc aLn : Nat} {aP : Option Addr} {aPc aPn : Nat} {aD : Option Addr} {aDc aDn : Nat} {aN : Option Addr} {aNc aNn : Nat} {aS : Option Addr} {aSc aSn : Nat} {m : Sw.Mkt} (h : OwM τ w lo aL aLc aLn aP aPc aPn aD aDc aDn aN aNc aNn aS aSc aSn m) (hk : KF lo w w') : RM w' 0 aL aLc aLn aP aPc aPn aD aDc aDn aN aNc aNn aS aSc aSn m := h.rm.at0 hk
end
end Go.Proofs.YtnnoiagommiapaaGreat
namespace Go.Proofs.YtnnoiagommiapaaGreat
open Go.RowKit Go
set_option maxHeartbeats 400000
theorem isUser_c (n : Int) (w : World) : Calls Tryz.prog 181 #[.int .i64 n] w fun E w' => E = .returned (.bool (Sw.inR n 1 5)) ∧ w = w' := by
 go_enter Tryz.func181, Tryz.ntmps181
 go_wp2_with (first | (go_at_call 121; refine (in_c _ _ _ _).mono ?_; rintro E w' ⟨rfl, rfl⟩))
 all_goals (go_ret; exact ⟨rfl, rfl⟩)
theorem isFace_c (n : Int) (w : World) : Calls Tryz.prog 182 #[.int .i64 n] w fun E w' => E = .returned (.bool (Sw.inR n 1 50)) ∧ w = w' := by
 go_enter Tryz.func182, Tryz.ntmps182
 go_wp2_with (first | (go_at_call 121; refine (in_c _ _ _ _).mono ?_; rintro E w' ⟨rfl, rfl⟩))
 all_goals (go_ret; exact ⟨rfl, rfl⟩)
theorem iEntCap_c (f : Int) (w : World) : Calls Tryz.prog 190 #[.int .i64 f] w fun E w' => E = .returned (.int .i64 (Sw.entCap f)) ∧ w = w' := by
 by_cases h : Sw.inR f 1 50 = true
 · have h' : 1 ≤ f ∧ f ≤ 50 := by simpa [Sw.inR] using h
   obtain ⟨a, b⟩ := h'
   go_enter Tryz.func190, Tryz.ntmps190
   go_wp2_with (first | (go_at_call 182; refine (isFace_c _ _).mono ?_; rintro E w' ⟨rfl, rfl⟩))
   all_goals (go_ret; refine ⟨ret_i (by simp [Sw.entCap, h]), rfl⟩)
 · go_enter Tryz.func190, Tryz.ntmps190
   go_wp2_with (first | (go_at_call 182; refine (isFace_c _ _).mono ?_; rintro E w' ⟨rfl, rfl⟩))
   all_goals (go_ret; refine ⟨ret_i (by simp [Sw.entCap, h]), rfl⟩)
theorem iEntOk_c (e : Sw.Ent) (w : World) : Calls Tryz.prog 269 #[.agg #[.int .i64 e.kind, .int .i64 e.ticket, .int .i64 e.who, .int .i64 e.price]] w fun E w' => E = .returned (.bool (Sw.entOk e)) ∧ Ex w w' := by
 go_enter Tryz.func269, Tryz.ntmps269
 go_wp2_with (first | (go_at_call 130; refine (isTicket_c _ _).mono ?_; rintro E w' ⟨rfl, rfl⟩) | (go_at_call 181; refine (isUser_c _ _).mono ?_; rintro E w' ⟨rfl, rfl⟩) | (go_at_call 182; refine (isFace_c _ _).mono ?_; rintro E w' ⟨rfl, rfl⟩) | (go_at_call 121; refine (in_c _ _ _ _).mono ?_; rintro E w' ⟨rfl, rfl⟩) | (go_at_call 190; refine (iEntCap_c _ _).mono ?_; rintro E w' ⟨rfl, rfl⟩))
 all_goals (try (refine wn_ fun W0 hb0 hc0 hf0 hz0 => ?_; go_region_held3 (fun w' => Held W0 w') ((exact hq_)) ((first | (go_at_call 130; refine (isTicket_c _ _).mono ?_; rintro E w' ⟨rfl, rfl⟩) | (go_at_call 181; refine (isUser_c _ _).mono ?_; rintro E w' ⟨rfl, rfl⟩) | (go_at_call 182; refine (isFace_c _ _).mono ?_; rintro E w' ⟨rfl, rfl⟩) | (go_at_call 121; refine (in_c _ _ _ _).mono ?_; rintro E w' ⟨rfl, rfl⟩) | (go_at_call 190; refine (iEntCap_c _ _).mono ?_; rintro E w' ⟨rfl, rfl⟩))); all_goals (obtain ⟨hb, hc, hf, hz⟩ := xh (by assumption : Held W0 _))))
 all_goals go_wp2
 all_goals (go_ret; refine ⟨ret_b ?_, (by first | rfl | exact ext_)⟩; go_tidy; (try simp only [Bool.not_eq_true', Bool.not_eq_false', Bool.not_eq_true, Bool.not_eq_false, beq_iff_eq, bne_iff_ne, ne_eq, beq_eq_false_iff_ne, bne_eq_false_iff_eq] at *); (first | rfl | (simp [Sw.entOk, Sw.entCap, show Sw.inR 50 1 50 = true from by decide, *]; done) | (simp [Sw.entOk, Sw.entCap, show Sw.inR 50 1 50 = true from by decide, *]; omega) | (simp [Sw.entOk, Sw.entCap, show Sw.inR 50 1 50 = true from by decide, beqI, *]; done) | (simp_all [Sw.entOk, Sw.entCap, show Sw.inR 50 1 50 = true from by decide, beqI]; done) | (simp_all [Sw.entOk, Sw.entCap, show Sw.inR 50 1 50 = true from by decide, beqI] <;> omega) | simp_all [Sw.entOk, Sw.entCap, show Sw.inR 50 1 50 = true from by decide, beqI]))
theorem iOwnOk_c (A : Option Addr) (c n : Nat) (xs : List Sw.Row) (w : World) (hxs : RR w 0 A c n xs) : Calls Tryz.prog 199 #[.slice A n c] w fun E w' => E = .returned (.bool (Sw.ownOk xs)) ∧ Ex w w' := by
 have hl := Lib.hid hxs.1
 have hbig := Rs.big hxs
 go_enter Tryz.func199, Tryz.ntmps199
 go_wp2_with fail
 go_loopw [7] (fun i wr => ∃ (k : Nat), k ≤ n ∧ i = .int .i64 k ∧ Ex w wr ∧ xs.all Sw.rowOk = (xs.drop k).all Sw.rowOk) (fun i _ => n - (intOf i).toNat)
 case atStart => exact ⟨0, Nat.zero_le _, rfl, ext_, rfl⟩
 case round =>
   obtain ⟨k, hk, rfl, hb, hrel⟩ := hrel
   have hst := Ex.rules hb rfl
   obtain ⟨hc, hf, hz⟩ := hst
   by_cases hlt : k < n
   · obtain ⟨g, off, y, rfl, hg0, hg, hd, hy, hc0, hc1, hc2⟩ := at_R hxs hlt
     rw [hd] at hrel
     have Hrel := Lib.hid hrel; clear hd hy hrel
     go_wp2_with (first | (go_at_call 181; refine (isUser_c _ _).mono ?_; rintro E w' ⟨rfl, rfl⟩) | (go_at_call 182; refine (isFace_c _ _).mono ?_; rintro E w' ⟨rfl, rfl⟩))
     all_goals (first | (refine ⟨⟨k + 1, by omega, by go_num, (by exact ext_), ?_⟩, by simp [intOf]; omega⟩; have hh := Hrel.out; clear Hrel; rw [List.all_cons] at hh; rw [hh]; clear hh; go_tidy; (try simp only [Bool.not_eq_true', Bool.not_eq_false', Bool.not_eq_true, Bool.not_eq_false, beq_iff_eq, bne_iff_ne, ne_eq, beq_eq_false_iff_ne, bne_eq_false_iff_eq] at *); have hp : Sw.rowOk y = true := (by (first | (simp [Sw.rowOk, show Sw.inR 0 1 5 = false from rfl, *]; done) | (simp [Sw.rowOk, show Sw.inR 0 1 5 = false from rfl, *]; omega) | (simp [Sw.rowOk, show Sw.inR 0 1 5 = false from rfl, *]; intros; simp_all; done) | (simp_all [Sw.rowOk, show Sw.inR 0 1 5 = false from rfl]; done))); simp [hp]) | (go_ret; refine ⟨ret_b ?_, (by first | rfl | exact ext_)⟩; have hh := Hrel.out; clear Hrel; rw [List.all_cons] at hh; unfold Sw.ownOk; rw [hh]; clear hh; go_tidy; (try simp only [Bool.not_eq_true', Bool.not_eq_false', Bool.not_eq_true, Bool.not_eq_false, beq_iff_eq, bne_iff_ne, ne_eq, beq_eq_false_iff_ne, bne_eq_false_iff_eq] at *); have hp : Sw.rowOk y = false := (by (first | (simp [Sw.rowOk, show Sw.inR 0 1 5 = false from rfl, *]; done) | (simp [Sw.rowOk, show Sw.inR 0 1 5 = false from rfl, *]; omega) | (simp [Sw.rowOk, show Sw.inR 0 1 5 = false from rfl, *]; intros; simp_all; done) | (simp_all [Sw.rowOk, show Sw.inR 0 1 5 = false from rfl]; done))); simp [hp]))
   · have Hrel := Lib.hid hrel; clear hrel
     go_wp2
     go_ret
     refine ⟨ret_b ?_, ext_⟩
     have := Hrel.out
     rw [List.drop_of_length_le (by have := hl.out; omega)] at this
     rw [Sw.ownOk, this, ← hl.out, show ((n : Int) == 8) = decide (n = 8) from by rw [beqI, decide_eq_decide]; omega]
     simp
theorem iFits_c (A : Option Addr) (c : Nat) (xs : List Sw.Row) (e : Sw.Ent) (w : World) (hxs : RR w 0 A c 8 xs) (ht0 : 0 ≤ e.ticket) (ht1 : e.ticket ≤ 7) : Calls Tryz.prog 270 #[.slice A 8 c, .agg #[.int .i64 e.kind, .int .i64 e.ticket, .int .i64 e.who, .int .i64 e.price]] w fun E w' => E = .returned (.bool (Sw.fitsRow (Sw.rowAt xs e.ticket) e)) ∧ Ex w w' := by
 have hl := Lib.hid hxs.1
 obtain ⟨t, ht'⟩ := Int.eq_ofNat_of_zero_le ht0
 have hlt : t < 8 := by omega
 obtain ⟨g, off, y, rfl, hg0, hg, hd, hy, hc0, hc1, hc2⟩ := at_R hxs hlt
 have hrow : Sw.rowAt xs e.ticket = y := by simp [Sw.rowAt, ht', hy]
 rw [hrow]
 clear hrow hd hy
 have Ht := Lib.hid ht'
 have ht2 : e.ticket < 8 := by omega
 have e0 : e.ticket.toNat = t := by omega
 clear ht'
 obtain ⟨yw, yf, yu⟩ := y
 dsimp only at hc0 hc1 hc2
 by_cases k1 : e.kind = 1
 · have hk1 : (e.kind == 1) = true := by simp [k1]
   have K1 := Lib.hid k1; clear k1
   go_enter Tryz.func270, Tryz.ntmps270
   go_wp2_with (first | (go_at_call 190; refine (iEntCap_c _ _).mono ?_; rintro E w' ⟨rfl, rfl⟩))
   go_ret
   exact ⟨ret_b (by simp [Sw.fitsRow, K1.out, beqI]), ext_⟩
 have hk1 : (e.kind == 1) = false := by simp [k1]
 by_cases k2 : e.kind = 2
 · have hk2 : (e.kind == 2) = true := by simp [k2]
   have K2 := Lib.hid k2; clear k2
   cases b1 : (yw == 0)
   case true =>
     have b1' : (yw != 0) = false := by rw [bne, b1]; rfl
     go_enter Tryz.func270, Tryz.ntmps270
     go_wp2_with fail
     go_quiet ((first | (go_at_call 190; exact Calls.quiet_same (iEntCap_c _ _))))
     go_wp2
     go_ret
     exact ⟨ret_b (by simp only [Sw.fitsRow, K2.out]; simp only [← beqI, decide_not, ne_eq, b1]; simp), ext_⟩
   have b1' : (yw != 0) = true := by rw [bne, b1]; rfl
   cases b2 : (yw == e.who)
   case true =>
     have b2' : (yw != e.who) = false := by rw [bne, b2]; rfl
     go_enter Tryz.func270, Tryz.ntmps270
     go_wp2_with fail
     go_quiet ((first | (go_at_call 190; exact Calls.quiet_same (iEntCap_c _ _))))
     go_wp2
     go_ret
     exact ⟨ret_b (by simp only [Sw.fitsRow, K2.out]; simp only [← beqI, decide_not, ne_eq, b2]; simp), ext_⟩
   have b2' : (yw != e.who) = true := by rw [bne, b2]; rfl
   cases yu
   all_goals
     go_enter Tryz.func270, Tryz.ntmps270
     go_wp2_with fail
     go_quiet ((first | (go_at_call 190; exact Calls.quiet_same (iEntCap_c _ _))))
     go_wp2
     go_ret
     exact ⟨ret_b (by simp only [Sw.fitsRow, K2.out]; simp only [← beqI, decide_not, ne_eq, b1, b2]; simp), ext_⟩
 have hk2 : (e.kind == 2) = false := by simp [k2]
 go_enter Tryz.func270, Tryz.ntmps270
 go_wp2_with (first | (go_at_call 190; refine (iEntCap_c _ _).mono ?_; rintro E w' ⟨rfl, rfl⟩))
 all_goals (go_ret; refine ⟨ret_b ?_, (by first | rfl | exact ext_)⟩; go_tidy; (try simp only [Bool.not_eq_true', Bool.not_eq_false', Bool.not_eq_true, Bool.not_eq_false, beq_iff_eq, bne_iff_ne, ne_eq, beq_eq_false_iff_ne, bne_eq_false_iff_eq] at *); (first | rfl | (simp [Sw.fitsRow, k1, k2, *]; done) | (simp [Sw.fitsRow, k1, k2, *]; omega) | (simp [Sw.fitsRow, k1, k2, beqI, *]; done) | (simp_all [Sw.fitsRow, k1, k2, beqI]; done) | (simp_all [Sw.fitsRow, k1, k2, beqI] <;> omega) | simp_all [Sw.fitsRow, k1, k2, beqI]))
theorem iOwnFits_c (A : Option Addr) (c n : Nat) (xs : List Sw.Row) (e : Sw.Ent) (w : World) (hxs : RR w 0 A c n xs) : Calls Tryz.prog 237 #[.slice A n c, .agg #[.int .i64 e.kind, .int .i64 e.ticket, .int .i64 e.who, .int .i64 e.price]] w fun E w' => E = .returned (.bool (Sw.ownFits xs e)) ∧ Ex w w' := by
 have hl := Lib.hid hxs.1
 cases h1 : Sw.ownOk xs
 case false =>
   go_enter Tryz.func237, Tryz.ntmps237; go_wp2_with (first | (go_at_call 199; apply Calls.mono; apply iOwnOk_c; (exact rd_); rintro E w1 ⟨rfl, hb⟩; obtain ⟨hc, hf, hz⟩ := xy hb) | (go_at_call 269; refine (iEntOk_c _ _).mono ?_; rintro E w1 ⟨rfl, hb⟩; obtain ⟨hc, hf, hz⟩ := xy hb)); go_ret; exact ⟨ret_b (by simp [Sw.ownFits, h1]), ext_⟩
 cases h2 : Sw.entOk e
 case false =>
   go_enter Tryz.func237, Tryz.ntmps237; go_wp2_with (first | (go_at_call 199; apply Calls.mono; apply iOwnOk_c; (exact rd_); rintro E w1 ⟨rfl, hb⟩; obtain ⟨hc, hf, hz⟩ := xy hb) | (go_at_call 269; refine (iEntOk_c _ _).mono ?_; rintro E w1 ⟨rfl, hb⟩; obtain ⟨hc, hf, hz⟩ := xy hb)); go_ret; exact ⟨ret_b (by simp [Sw.ownFits, h2]), ext_⟩
 obtain ⟨⟨t0, t7⟩, _⟩ := Sw.entOk_iff.1 h2
 have hn8 : n = 8 := by have := hl.out; have := Sw.ownOk_len h1; omega
 subst hn8
 go_enter Tryz.func237, Tryz.ntmps237
 go_wp2_with (first | (go_at_call 199; apply Calls.mono; apply iOwnOk_c; (exact rd_); rintro E w1 ⟨rfl, hb⟩; obtain ⟨hc, hf, hz⟩ := xy hb) | (go_at_call 269; refine (iEntOk_c _ _).mono ?_; rintro E w1 ⟨rfl, hb⟩; obtain ⟨hc, hf, hz⟩ := xy hb) | (go_at_call 270; apply Calls.mono; apply iFits_c; (exact rd_); (first | assumption | omega); (first | assumption | omega); rintro E w1 ⟨rfl, hb⟩; obtain ⟨hc, hf, hz⟩ := xy hb))
 go_ret
 exact ⟨ret_b (by simp [Sw.ownFits, h1, h2]), ext_⟩
theorem iCloneRows_c (A : Option Addr) (c n : Nat) (xs : List Sw.Row) (w : World) (hxs : RR w 0 A c n xs) (hn : n ≤ 4194304) : Calls Tryz.prog 236 #[.slice A n c] w fun E w' => ∃ A' c', E = .returned (.slice A' n c') ∧ OwR w' w.heap.size A' c' n xs ∧ Ex w w' := by
 go_enter Tryz.func236, Tryz.ntmps236
 go_wp2_with (at_builtin; apply wpList_app (lo := w.heap.size) el_R one_R rfl rfl rfl rfl; (first | assumption | exact Ow.nil _ _ | (apply Ow.keep; assumption; exact kf_) | (refine own_)); (first | (exact rd_)); omega; exact sz_; intro A1 c1 w2 ho1 hch1 hat1 hex1 hlow1; have hb := hex1 (fun _ => False) w (by exact ext_) (by exact sz_); have hz := hch1.size; (try simp only [zq_] at hz); obtain ⟨hc, hf⟩ := low_rules hlow1; clear hlow1 hex1)
 go_ret
 rw [Nat.zero_add, List.nil_append] at ho1
 exact ⟨A1, c1, rfl, ho1, ext_⟩
end Go.Proofs.YtnnoiagommiapaaGreat
namespace Go.Proofs.YtnnoiagommiapaaGreat
open Go.RowKit Go
set_option maxHeartbeats 1000000
def FI (zs : List Int) : List Value := zs.map (Value.int .i64)
structure OwFl (sz : Nat) (e : TypeId) (w : World) (lo : Nat) (A : Option Addr) (c n : Nat) (zs : List Int) : Prop where
 len : n * sz = zs.length
 owns : w.ownsRow lo e sz (.slice A n c) n (FI zs)
section
variable {sz : Nat} {e : TypeId} {w w' : World} {lo lo' c n k : Nat} {A : Option Addr} {zs : List Int}
theorem OwFl.of {α : Type} {enc : α → List Value} {f : α → List Int} {xs : List α} (h : Ow enc sz e w lo A c n xs) (hf : ∀ x, enc x = FI (f x)) (hl : ∀ x, (f x).length = sz) : OwFl sz e w lo A c n (xs.flatMap f) := by
 have e1 : xs.flatMap enc = FI (xs.flatMap f) := by
   clear h
   induction xs with
   | nil => rfl
   | cons x xs ih => rw [List.flatMap_cons, List.flatMap_cons, ih, hf]; simp [FI]
 have e2 : (xs.flatMap f).length = xs.length * sz := by
   clear h e1
   induction xs with
   | nil => simp
   | cons x xs ih => simp only [List.flatMap_cons, List.length_append, hl, ih, List.length_cons, Nat.succ_mul]; omega
 exact ⟨by rw [e2, h.1], by rw [← e1]; exact h.2⟩
theorem OwFl.form (h : OwFl sz e w lo A c n zs) : (A = none ∧ n = 0 ∧ c = 0) ∨ ∃ g cur, A = some ⟨g, 0, none⟩ ∧ lo ≤ g ∧ g < w.heap.size ∧ w.heap[g]? = some (.cells cur e (0, 0)) ∧ n ≤ c ∧ c ≤ maxLen ∧ cur.size = c * sz ∧ cur.toList.take (n * sz) = FI zs := by
 rcases h.owns.2 with ⟨hv, h0⟩ | ⟨g, cap, cur, hv, hb, hh, hn, hm, hs, ht⟩
 · injection hv with h1 h2 h3; exact .inl ⟨h1, h2, h3⟩
 · injection hv with h1 h2 h3
   subst h3
   exact .inr ⟨g, cur, h1, hb, (Array.getElem?_eq_some_iff.1 hh).1, hh, hn, hm, hs, ht⟩
theorem OwFl.keep_ (h : OwFl sz e w lo A c n zs) (hk : ∀ a, A = some a → w'.heap[a.block]? = w.heap[a.block]?) : OwFl sz e w' lo A c n zs := by
 refine ⟨h.len, h.owns.1, ?_⟩
 rcases h.owns.2 with hv | ⟨g, cap, cur, hv, hb, hh, r⟩
 · exact .inl hv
 · have hA : A = some ⟨g, 0, none⟩ := by injection hv
   exact .inr ⟨g, cap, cur, hv, hb, (hk _ hA).trans hh, r⟩
theorem OwFl.blk (h : OwFl sz e w lo A c n zs) {a : Addr} (ha : A = some a) : lo ≤ a.block ∧ a.block < w.heap.size := by
 rcases h.form with ⟨h1, _⟩ | ⟨g, cur, h1, h2, h3, _⟩
 · rw [h1] at ha; cases ha
 · rw [h1] at ha; cases ha; exact ⟨h2, h3⟩
theorem OwFl.cell (h : OwFl sz e w lo A c n zs) {i : Nat} (hi : i < n * sz) : ∃ g z, A = some ⟨g, 0, none⟩ ∧ lo ≤ g ∧ g < w.heap.size ∧ w.cell? ⟨g, i, none⟩ = some (.int .i64 z) ∧ ∀ i, w.frozen? ⟨g, i, none⟩ = false := by
 rcases h.form with ⟨_, h1, _⟩ | ⟨g, cur, h1, h2, h3, h4, _, _, _, h5⟩
 · subst h1; simp at hi
 · have hz : i < zs.length := by rw [← h.len]; exact hi
   have h6 : cur[i]? = some (.int .i64 zs[i]) := by
     have h7 := congrArg (fun l : List Value => l[i]?) h5
     simp only [List.getElem?_take, if_pos hi, FI, List.getElem?_map, List.getElem?_eq_getElem hz, Option.map_some] at h7
     rw [← h7]; simp
   refine ⟨g, zs[i], h1, h2, h3, ?_, fun i => by simp [World.frozen?, h4]⟩
   simp [World.cell?, h4, h6]
theorem marks_app : ∀ (a b : Nat) (k : Int), marks k (a + b) = marks k a ++ marks (k + a) b
 | 0, b, k => by simp [marks]
 | a + 1, b, k => by
   rw [show a + 1 + b = (a + b) + 1 from by omega, marks, marks, marks_app a b (k + 1), List.cons_append]
   congr 3; omega
theorem OwFl.put {z0 : List Int} {k : Int} {j g : Nat} (h : OwFl sz e w lo (some ⟨g, 0, none⟩) c n (marks k (j * sz) ++ z0.drop (j * sz))) (hl : n * sz = z0.length) (hj : j < n) :
   OwFl sz e (setCells w g (j * sz) (FI (marks (k + (j : Int) * sz) sz))) lo (some ⟨g, 0, none⟩) c n (marks k ((j + 1) * sz) ++ z0.drop ((j + 1) * sz)) := by
 have h1 : (j + 1) * sz = j * sz + sz := Nat.succ_mul j sz
 have h2 : j * sz + sz ≤ n * sz := by rw [← h1]; exact Nat.mul_le_mul_right _ hj
 have hm : ∀ (a : Int) (b : Nat), (FI (marks a b)).length = b := fun a b => by simp [FI, marks_len]
 have hle : j * sz + (FI (marks (k + (j : Int) * sz) sz)).length ≤ (FI (marks k (j * sz) ++ z0.drop (j * sz))).length := by
   rw [hm]
   simp only [FI, List.length_map, List.length_append, marks_len, List.length_drop]
   omega
 have := ownsRow_sets _ _ w h.owns hle
 rw [setMany_eq _ _ _ hle, hm] at this
 have e1 : (FI (marks k (j * sz) ++ z0.drop (j * sz))).take (j * sz) = FI (marks k (j * sz)) := by
   unfold FI
   rw [List.map_append, List.take_append_of_le_length (by simp [marks_len]), List.take_of_length_le (by simp [marks_len])]
 have e2 : (FI (marks k (j * sz) ++ z0.drop (j * sz))).drop (j * sz + sz) = FI (z0.drop ((j + 1) * sz)) := by
   unfold FI
   rw [List.map_append, List.drop_append, List.drop_of_length_le (by simp [marks_len]), List.length_map, marks_len, List.nil_append, ← List.map_drop, List.drop_drop, h1]
   congr 2; omega
 rw [e1, e2] at this
 refine ⟨by simp only [List.length_append, marks_len, List.length_drop]; omega, ?_⟩
 have e3 : FI (marks k ((j + 1) * sz) ++ z0.drop ((j + 1) * sz)) = FI (marks k (j * sz)) ++ FI (marks (k + (j : Int) * sz) sz) ++ FI (z0.drop ((j + 1) * sz)) := by
   rw [h1, marks_app]
   simp [FI]
 rw [e3]
 exact this
theorem setCells_ch {S : Nat → Prop} {w0 : World} {g : Nat} : ∀ {vs : List Value} {w : World} {i : Nat}, Ch S w0 w → S g → Ch S w0 (setCells w g i vs)
 | [], _, _, h, _ => h
 | v :: vs, w, i, h, hg => setCells_ch (vs := vs) (h.setCell (p := ⟨g, i, none⟩) (Or.inl hg) v) hg
theorem OwFl.rd (h : OwFl sz e w lo A c n zs) : Rd w lo A c sz n (FI zs) := Rd.of_own h.owns
theorem Rd.marks {k : Int} {N : Nat} (h : Rd w lo A c sz n (FI (Go.Proofs.YtnnoiagommiapaaGreat.marks k N))) (hn : 0 < n) : ∃ g off, A = some ⟨g, off, none⟩ ∧ ∀ i, i < N → w.cell? ⟨g, off + i, none⟩ = some (.int .i64 (k + (i : Nat))) := by
 cases A with
 | none => have := h.nil rfl; have := h.le; omega
 | some a =>
   obtain ⟨h1, h2, h3, h4⟩ := h.cells a rfl hn
   obtain ⟨g, off, spot⟩ := a
   dsimp only at h1 h2 h3 h4
   subst h1
   refine ⟨g, off, rfl, fun i hi => h4 i _ ?_⟩
   simp only [FI, List.getElem?_map, marks_at N i k hi, Option.map_some]
end
def Sw.Ent.ints (x : Sw.Ent) : List Int := [x.kind, x.ticket, x.who, x.price]
def Sw.Deal.ints (x : Sw.Deal) : List Int := [x.ticket, x.seller, x.price, x.buyer, x.due]
def Sw.Req.ints (x : Sw.Req) : List Int := [x.user, x.n, x.kind, x.ticket, x.who, x.price]
end Go.Proofs.YtnnoiagommiapaaGreat
namespace Go.Proofs.YtnnoiagommiapaaGreat
open Go.RowKit Go
set_option maxHeartbeats 16000000
def sliceLen : Value → Nat
 | .slice _ n _ => n
 | _ => 0
theorem Ints.ex {w w' : World} {g n : Nat} (hb : Ex w w') (h : Ints w g n) : Ints w' g n := h.ch hb (fun h => h)
set_option maxHeartbeats 1000000
theorem upR_ok : ∀ (l : List Int) (n i : Nat) (leaf : Int), Sw.mixOk leaf = true → l.all Sw.mixOk = true → Sw.mixOk (Sw.upR n i leaf l).1 = true
 | [], n, i, leaf, h, _ => by
   unfold Sw.upR
   split
   · exact h
   · rfl
 | y :: l, n, i, leaf, h, ha => by
   unfold Sw.upR
   split
   · exact h
   · split <;> exact pair_ok _ _
theorem sUp_c (N : Nat) (A : Option Addr) (c n m k : Nat) (leaf : Int) (xs : List Int) (w : World) (hN : n ≤ N) (hxs : RI w 0 A c n xs) (h40 : n ≤ 40) (hall : xs.all Sw.mixOk = true) (hleaf : Sw.mixOk leaf = true) (hm : 1 ≤ m) (hk : k < m) (hm40 : m ≤ 40) : Calls Tryz.prog 302 #[.int .i64 m, .int .i64 k, .int .i64 leaf, .slice A n c] w fun E w' => E = .returned (.tuple #[.int .i64 (Sw.upR m k leaf xs.reverse).1, .bool (Sw.upR m k leaf xs.reverse).2]) ∧ Ex w w' := by
 induction N generalizing A c n m k xs w with
 | zero =>
   have hl := hxs.1
   obtain rfl : n = 0 := by omega
   have hx : xs = [] := List.eq_nil_of_length_eq_zero (by omega)
   subst hx
   clear hl
   by_cases h1 : m = 1
   · subst h1
     go_enter Tryz.func302, Tryz.ntmps302
     go_wp2_with fail
     go_ret2
     exact ⟨by simp [Sw.upR], ext_⟩
   · have hb : ((m : Int) == 1) = false := by simp; omega
     have hb2 : decide ((m : Int) < 2) = false := by simp; omega
     go_enter Tryz.func302, Tryz.ntmps302
     go_wp2_with fail
     go_ret2
     exact ⟨by simp [Sw.upR, show ¬ m ≤ 1 by omega], ext_⟩
 | succ N ih =>
   have hl := Lib.hid hxs.1
   have hcap := hxs.2.le
   by_cases h0 : n = 0
   · subst h0
     have hx : xs = [] := List.eq_nil_of_length_eq_zero (by have := hl.out; omega)
     subst hx
     exact ih _ c 0 m k [] w (by omega) hxs (by omega) hall hm hk hm40
   · obtain ⟨p, rfl⟩ : ∃ p, n = p + 1 := ⟨n - 1, by omega⟩
     obtain ⟨g, off, y, rfl, hg0, hg, hd, hy, hc⟩ := at_I hxs (show p < p + 1 by omega)
     have hrev := rev_snoc (by have := hl.out; omega) hy
     have hyok : Sw.mixOk y = true := List.all_eq_true.1 hall y (List.mem_of_getElem? hy)
     rw [hrev]
     have Hy := Lib.hid hy
     clear hd hy hrev
     have w1 : IntKind.i64.wrap ((p : Int) + 1 - 1) = p := by rw [IntWalk.i64_in _ (by omega)]; omega
     have tp : (p : Int) < (p : Int) + 1 := by omega
     have hb0 : ((p : Int) + 1 == 0) = false := by simp; omega
     have hb1 : decide ((p : Int) < 0) = false := by simp
     by_cases h1 : m = 1
     · subst h1
       go_enter Tryz.func302, Tryz.ntmps302
       go_wp2_with fail
       go_ret2
       exact ⟨by simp [Sw.upR], ext_⟩
     · have h2 : 2 ≤ m := by omega
       have hs1 := Sw.split_lt h2
       have hs0 := Sw.split_pos m
       have hb : ((m : Int) == 1) = false := by simp; omega
       have hb2 : decide ((m : Int) < 2) = false := by simp; omega
       have hal := List.all_take (k := p) hall
       have hal' : (xs.take p).reverse.all Sw.mixOk = true := by rw [List.all_reverse]; exact hal
       by_cases hms : k < Sw.split m
       · have hms' : (k : Int) < (Sw.split m : Int) := by omega
         have e : Sw.upR m k leaf (y :: (xs.take p).reverse) = (Sw.pair (Sw.upR (Sw.split m) k leaf (xs.take p).reverse).1 y, (Sw.upR (Sw.split m) k leaf (xs.take p).reverse).2) := by
           rw [Sw.upR, if_neg (by omega), if_pos hms]
         have xok := upR_ok (xs.take p).reverse (Sw.split m) k leaf hleaf hal'
         rw [e]; clear e
         go_enter Tryz.func302, Tryz.ntmps302
         go_wp2_with (first | (go_at_call 272; apply Calls.mono; apply sTreSplit_c; (first | assumption | omega); (first | assumption | omega); rintro E w' ⟨rfl, rfl⟩) | (go_at_call 302; apply Calls.mono; apply ih; omega; (apply Rs.at0; apply RI_take hxs; omega; (exact kf_)); omega; exact hal; omega; omega; omega; rintro E w1 ⟨rfl, hb⟩; obtain ⟨hc, hf, hz⟩ := xy hb) | (go_at_call 273; refine (sMixPair_c _ _ _).mono ?_; rintro E w' ⟨rfl, rfl⟩))
         all_goals (try (refine wn_ fun W0 hb0 hc0 hf0 hz0 => ?_; go_region_held3 (fun w' => Held W0 w') ((exact hq_)) ((first | (go_at_call 273; refine (sMixPair_c _ _ _).mono ?_; rintro E w' ⟨rfl, rfl⟩))); all_goals (obtain ⟨hb, hc, hf, hz⟩ := xh (by assumption : Held W0 _))))
         all_goals (try go_wp2)
         go_ret2
         exact ⟨by rw [mixPair_ok xok hyok]; rfl, ext_⟩
       · have hms' : ¬ (k : Int) < (Sw.split m : Int) := by omega
         have y0 : IntKind.i64.wrap ((k : Int) - ↑(Sw.split m)) = ((k - Sw.split m : Nat) : Int) := by rw [IntWalk.i64_in _ (by omega)]; omega
         have y1 : IntKind.i64.wrap ((m : Int) - ↑(Sw.split m)) = ((m - Sw.split m : Nat) : Int) := by rw [IntWalk.i64_in _ (by omega)]; omega
         have e : Sw.upR m k leaf (y :: (xs.take p).reverse) = (Sw.pair y (Sw.upR (m - Sw.split m) (k - Sw.split m) leaf (xs.take p).reverse).1, (Sw.upR (m - Sw.split m) (k - Sw.split m) leaf (xs.take p).reverse).2) := by
           rw [Sw.upR, if_neg (by omega), if_neg hms]
         have xok := upR_ok (xs.take p).reverse (m - Sw.split m) (k - Sw.split m) leaf hleaf hal'
         rw [e]; clear e
         go_enter Tryz.func302, Tryz.ntmps302
         go_wp2_with (first | (go_at_call 272; apply Calls.mono; apply sTreSplit_c; (first | assumption | omega); (first | assumption | omega); rintro E w' ⟨rfl, rfl⟩) | (go_at_call 302; apply Calls.mono; apply ih; omega; (apply Rs.at0; apply RI_take hxs; omega; (exact kf_)); omega; exact hal; omega; omega; omega; rintro E w1 ⟨rfl, hb⟩; obtain ⟨hc, hf, hz⟩ := xy hb) | (go_at_call 273; refine (sMixPair_c _ _ _).mono ?_; rintro E w' ⟨rfl, rfl⟩))
         all_goals (try (refine wn_ fun W0 hb0 hc0 hf0 hz0 => ?_; go_region_held3 (fun w' => Held W0 w') ((exact hq_)) ((first | (go_at_call 273; refine (sMixPair_c _ _ _).mono ?_; rintro E w' ⟨rfl, rfl⟩))); all_goals (obtain ⟨hb, hc, hf, hz⟩ := xh (by assumption : Held W0 _))))
         all_goals (try go_wp2)
         go_ret2
         exact ⟨by rw [mixPair_ok hyok xok]; rfl, ext_⟩
theorem sTreUp_c (nn i leaf : Int) (A : Option Addr) (c n : Nat) (xs : List Int) (w : World) (hxs : RI w 0 A c n xs) : Calls Tryz.prog 288 #[.int .i64 nn, .int .i64 i, .int .i64 leaf, .slice A n c] w fun E w' => E = .returned (.tuple #[.int .i64 ((Sw.treUp nn i leaf xs).getD 0), .bool (Sw.treUp nn i leaf xs).isSome]) ∧ Ex w w' := by
 have hl := Lib.hid hxs.1
 cases g1 : Sw.inR nn 1 40
 case false => have e : Sw.treUp nn i leaf xs = none := by (simp [Sw.treUp, g1])
               rw [e]; go_enter Tryz.func288, Tryz.ntmps288; go_wp2_with (first | (go_at_call 99; refine (l1In_c _ _ _ _).mono ?_; rintro E w' ⟨rfl, rfl⟩)); go_ret2; exact ⟨rfl, ext_⟩
 obtain ⟨n0, n1⟩ := Sw.inR_iff.1 g1
 cases g2 : Sw.inR i 0 (nn - 1)
 case false => have e : Sw.treUp nn i leaf xs = none := by (simp [Sw.treUp, g2])
               rw [e]; go_enter Tryz.func288, Tryz.ntmps288; go_wp2_with (first | (go_at_call 99; refine (l1In_c _ _ _ _).mono ?_; rintro E w' ⟨rfl, rfl⟩)); go_ret2; exact ⟨rfl, ext_⟩
 obtain ⟨i0, i1⟩ := Sw.inR_iff.1 g2
 cases g3 : Sw.mixOk leaf
 case false => have e : Sw.treUp nn i leaf xs = none := by (simp [Sw.treUp, g3])
               rw [e]; go_enter Tryz.func288, Tryz.ntmps288; go_wp2_with (first | (go_at_call 99; refine (l1In_c _ _ _ _).mono ?_; rintro E w' ⟨rfl, rfl⟩) | (go_at_call 179; refine (sMixOk_c _ _).mono ?_; rintro E w' ⟨rfl, rfl⟩)); go_ret2; exact ⟨rfl, ext_⟩
 cases g4 : Sw.treOk xs
 case false => have e : Sw.treUp nn i leaf xs = none := by (simp [Sw.treUp, g4])
               rw [e]; go_enter Tryz.func288, Tryz.ntmps288; go_wp2_with (first | (go_at_call 99; refine (l1In_c _ _ _ _).mono ?_; rintro E w' ⟨rfl, rfl⟩) | (go_at_call 179; refine (sMixOk_c _ _).mono ?_; rintro E w' ⟨rfl, rfl⟩) | (go_at_call 101; apply Calls.mono; apply sTreOk_c; (exact rd_); rintro E w' ⟨rfl, rfl⟩)); go_ret2; exact ⟨rfl, ext_⟩
 obtain ⟨h40, hall⟩ := Sw.treOk_iff.1 g4
 have hn40 : n ≤ 40 := by have := hl.out; omega
 obtain ⟨m, rfl⟩ := Int.eq_ofNat_of_zero_le (show 0 ≤ nn by omega)
 obtain ⟨k, rfl⟩ := Int.eq_ofNat_of_zero_le i0
 have e : Sw.treUp m k leaf xs = if (Sw.upR m k leaf xs.reverse).2 then some (Sw.upR m k leaf xs.reverse).1 else none := by
   simp only [Sw.treUp, g1, g2, g3, g4, Bool.true_and, Sw.up, Int.toNat_natCast]
 rw [e]; clear e
 cases hu : (Sw.upR m k leaf xs.reverse).2
 all_goals
   go_enter Tryz.func288, Tryz.ntmps288
   go_wp2_with (first | (go_at_call 99; refine (l1In_c _ _ _ _).mono ?_; rintro E w' ⟨rfl, rfl⟩) | (go_at_call 179; refine (sMixOk_c _ _).mono ?_; rintro E w' ⟨rfl, rfl⟩) | (go_at_call 101; apply Calls.mono; apply sTreOk_c; (exact rd_); rintro E w' ⟨rfl, rfl⟩) | (go_at_call 302; apply Calls.mono; apply (sUp_c 40); omega; (exact rd_); omega; exact hall; exact g3; omega; omega; omega; rintro E w1 ⟨rfl, hb⟩; obtain ⟨hc, hf, hz⟩ := xy hb))
   go_ret2
   exact ⟨rfl, ext_⟩
theorem sTreCheck_c (r nn i leaf : Int) (A : Option Addr) (c n : Nat) (xs : List Int) (w : World) (hxs : RI w 0 A c n xs) : Calls Tryz.prog 277 #[.int .i64 r, .int .i64 nn, .int .i64 i, .int .i64 leaf, .slice A n c] w fun E w' => E = .returned (.bool (Sw.treCheck r nn i leaf xs)) ∧ Ex w w' := by
 have e : Sw.treCheck r nn i leaf xs = ((Sw.treUp nn i leaf xs).isSome && ((Sw.treUp nn i leaf xs).getD 0 == r)) := by
   unfold Sw.treCheck
   cases Sw.treUp nn i leaf xs with
   | none => rfl
   | some v => rfl
 rw [e]; clear e
 cases hu : (Sw.treUp nn i leaf xs).isSome
 all_goals
   go_enter Tryz.func277, Tryz.ntmps277
   go_wp2_with (first | (go_at_call 288; apply Calls.mono; apply sTreUp_c; (exact rd_); rintro E w1 ⟨rfl, hb⟩; obtain ⟨hc, hf, hz⟩ := xy hb))
   all_goals (go_ret; exact ⟨ret_b (by simp [*]), ext_⟩)
theorem sOwnCheck_c (root t : Int) (r : Sw.Row) (A : Option Addr) (c n : Nat) (xs : List Int) (w : World) (hxs : RI w 0 A c n xs) : Calls Tryz.prog 250 #[.int .i64 root, .int .i64 t, .agg #[.int .i64 r.who, .int .i64 r.face, .bool r.used], .slice A n c] w fun E w' => E = .returned (.bool (Sw.ownCheck root t r xs)) ∧ Ex w w' := by
 cases g1 : Sw.inR t 0 7
 all_goals
   go_enter Tryz.func250, Tryz.ntmps250
   go_wp2_with (first | (go_at_call 99; refine (l1In_c _ _ _ _).mono ?_; rintro E w' ⟨rfl, rfl⟩) | (go_at_call 278; refine (sOwnLeaf_c _ _ _).mono ?_; rintro E w1 ⟨rfl, hb⟩; obtain ⟨hc, hf, hz⟩ := xy hb) | (go_at_call 277; apply Calls.mono; apply sTreCheck_c; (exact rd_); rintro E w1 ⟨rfl, hb⟩; obtain ⟨hc, hf, hz⟩ := xy hb))
   all_goals (go_ret; exact ⟨ret_b (by simp [Sw.ownCheck, g1]), ext_⟩)
def lineBad (r : Sw.Req) : Bool := !Sw.lineOk r
def gateBad (g : Sw.Gate) : Bool := !Sw.gatOk g
def msgBad (x : Sw.Msg) : Bool := !Sw.msgOk x
theorem req_zero {r : Sw.Req} : decide (r = Sw.reqZ) = (decide (r.user = 0) && (decide (r.n = 0) && (decide (r.kind = 0) && (decide (r.ticket = 0) && (decide (r.who = 0) && decide (r.price = 0)))))) := by
 rw [Bool.eq_iff_iff]; cases r; simp [Sw.reqZ]
def wldGate (x : Sw.World) : Bool := Sw.mktOk x.market && Sw.monOk x.first && decide (x.lines.length ≤ 300) && decide (x.gates.length = 2) && decide (x.bag.length ≤ 6)
end Go.Proofs.YtnnoiagommiapaaGreat

/- Texts joined: Mak, PtrA, ImpN, LawMk2, Range, NewSt. -/
import Derived.Test.YtnnoiagommiapaaGreatPz10
import Derived.Test.YtnnoiagommiapaaGreatPz16
import Derived.Test.YtnnoiagommiapaaGreatPz13
import Derived.Test.YtnnoiagommiapaaGreatPz17
import Derived.Shelf.RegionOpenPlain
import Derived.Deep.RegionLaw
import Derived.Test.YtnnoiagommiapaaGreatPz19
import Derived.Test.YtnnoiagommiapaaGreatPz18
import Derived.Test.YtnnoiagommiapaaGreatPz14
set_option maxRecDepth 100000
set_option linter.unusedSimpArgs false
set_option linter.unusedVariables false
namespace Go.Proofs.YtnnoiagommiapaaGreat
open Go.RowKit Go
set_option maxHeartbeats 1000000
theorem step_mk {P : Program} {w : World} {ops : Array Oper} {o : Oper} {a : Act} {Kx : Act → World → Prop} {Q : Exit → Act → World → Prop} {E : Prop} {α : Type} {enc : α → List Value} {sz bytes : Nat} {t e : TypeId} {l c : Operand} {lo n : Nat}
   (hel : ElemOk P t e sz bytes) (zx : α) (hzx : ∀ i z, P.info? e = some i → i.zero = some z → z.cells = (enc zx).toArray) (hsz : (enc zx).length = sz) (hgd : o.guard = none)
   (ho : o.op = .makeSlice t l c) (hl : a.eval l = .int .i64 n) (hc : a.eval c = .int .i64 n) (hb : bytes * n ≤ 281474976710656) (hn : n ≤ maxLen) (hlo : lo ≤ w.heap.size)
   (K : ∀ w', Ow enc sz e w' lo (some ⟨w.heap.size, 0, none⟩) n n (List.replicate n zx) → Ex w w' → w.heap.size + 1 ≤ w'.heap.size → Kx (a.put o.dst (.slice (some ⟨w.heap.size, 0, none⟩) n n)) w') :
   if Region.wanted o (yielded ops a.tmps) = true then o.wp P a w Kx Q else E := by
 rw [if_pos (by simp [Region.wanted, hgd])]
 obtain ⟨i, z, hi, hz, hsz', hby, hzs⟩ := hel.info
 obtain ⟨w', hrun, h1, h2⟩ := run_make_full (P := P) w lo t e i z sz hel.sl hi hz hsz' .i64 .i64 n (by rw [hby]; exact hb) hn hlo
 unfold Oper.wp
 simp [execOp, ho, hl, hc, hrun, Result.andThen]
 rw [hzx i z hi hz, madeCells_flat zx hsz hel.pos] at h1
 refine K w' ⟨(List.length_replicate ..).symm, h1⟩ ⟨h2.os, h2.tape, h2.output, h2.size, fun k hk _ => h2.block k hk (by simp)⟩ ?_
 rcases h1.2 with ⟨hv, h0⟩ | ⟨g, cap, cur, hv, hb, hh, _⟩
 · cases hv
 · injection hv with e1 e2 e3
   have e4 : w.heap.size = g := by injection e1 with e1; injection e1
   subst e4
   exact (Array.getElem?_eq_some_iff.1 hh).1
inductive MakeSt {α : Type} (enc : α → List Value) (sz : Nat) (e : TypeId) (τ : Nat → Nat) (t : Nat) (w : World) (lo n : Nat) (xs : List α) : Bool → Value → Prop
 | none (v : Value) : MakeSt enc sz e τ t w lo n xs false v
 | done (A : Option Addr) (c : Nat) (h : OwT enc sz e τ t w lo A c n xs) : MakeSt enc sz e τ t w lo n xs true (.slice A n c)
section
variable {α : Type} {enc : α → List Value} {sz : Nat} {e : TypeId} {τ τ' : Nat → Nat} {t s : Nat} {w w' : World} {lo n c : Nat} {xs : List α} {l r : Bool} {v u : Value} {A A' : Option Addr}
theorem MakeSt.mv (h : MakeSt enc sz e τ t w lo n xs r u) (f : ∀ A c k ys, OwT enc sz e τ t w lo A c k ys → OwT enc sz e τ' t w' lo A c k ys) : MakeSt enc sz e τ' t w' lo n xs r u := by
 cases h with
 | none => exact .none _
 | done A c h => exact .done _ _ (f _ _ _ _ h)
theorem MakeSt.alloc {o : Obj} (h : MakeSt enc sz e τ t w lo n xs r u) : MakeSt enc sz e (glue τ w.heap.size (fun _ => s)) t (w.alloc o) lo n xs r u :=
 h.mv fun _ _ _ _ h => (h.glueL (Nat.le_refl _)).keep (KT.refl _ _ _ _).alloc
theorem MakeSt.app (h : MakeSt enc sz e τ t w lo n xs r u) (hb : Ch (atA A) w w') (ht : ∀ a, A = some a → τ a.block = s) (hne : t ≠ s) : MakeSt enc sz e (glue τ w.heap.size (fun _ => s)) t w' lo n xs r u :=
 h.mv fun _ _ _ _ h => (h.glueL (Nat.le_refl _)).keep (KT.ch hb (KT.refl _ _ _ _) fun i ⟨a, ha, hi⟩ => .inr (by rw [hi, glue_tag (ht a ha)]; exact Ne.symm hne))
theorem MakeSt.ex (h : MakeSt enc sz e τ t w lo n xs r u) (hb : Ex w w') : MakeSt enc sz e (glue τ w.heap.size (fun _ => s)) t w' lo n xs r u :=
 h.mv fun _ _ _ _ h => (h.glueL (Nat.le_refl _)).keep (KT.ex hb (KT.refl _ _ _ _))
theorem CopySt.ex (h : CopySt enc sz e τ t w lo n xs l r v u) (hb : Ex w w') : CopySt enc sz e (glue τ w.heap.size (fun _ => s)) t w' lo n xs l r v u :=
 h.mv fun _ _ _ _ h => (h.glueL (Nat.le_refl _)).keep (KT.ex hb (KT.refl _ _ _ _))
theorem OwT.newT {ys : List α} {m lo' : Nat} (h : Ow enc sz e w' lo' A c m ys) (hl : w.heap.size ≤ lo') (hlo : lo ≤ lo') : OwT enc sz e (glue τ w.heap.size (fun _ => t)) t w' lo A c m ys :=
 ⟨h.less hlo, fun a ha => by unfold glue; rw [if_neg (by have := (h.blk ha).1; omega)]⟩
end
end Go.Proofs.YtnnoiagommiapaaGreat
namespace Go.Proofs.YtnnoiagommiapaaGreat
open Go.RowKit Go
set_option maxHeartbeats 4000000
theorem take_drop_erase {α : Type} : ∀ (l : List α) (k : Nat), l.take k ++ l.drop (k + 1) = l.eraseIdx k
 | [], k => by simp
 | x :: l, 0 => by simp
 | x :: l, k + 1 => by simp [take_drop_erase l k]
theorem iDelete_c (g c n k lo : Nat) (ds : List Sw.Deal) (w : World) (h : OwD w lo (some ⟨g, 0, none⟩) c n ds) (hk : k < n) : Calls Tryz.prog 264 #[.slice (some ⟨g, 0, none⟩) n c, .int .i64 k, .int .i64 ((k : Int) + 1)] w fun E w' =>
   E = .returned (.slice (some ⟨g, 0, none⟩) (n - 1) c) ∧ OwD w' lo (some ⟨g, 0, none⟩) c (n - 1) (ds.eraseIdx k) ∧ Ch (· = g) w w' := by
 have hle := h.rs.2.le
 have hcb := h.rs.2.cap
 have hfront := Lib.hid (Ow.front h (fun _ => rfl) (k := k) (by omega))
 have s2 := h.rs.drop (fun _ => rfl) (k := k + 1) (by omega)
 have l3 := Lib.hid h.1
 unfold maxLen at hcb
 have z0 : (0 : Int) ≤ (k : Int) := by omega
 have z1 : (k : Int) ≤ (n : Int) := by omega
 have z2 : (k : Int) + 1 ≤ (n : Int) := by omega
 have z3 : (0 : Int) ≤ (k : Int) + 1 := by omega
 have z4 : (k : Int) ≤ (c : Int) := by omega
 have z5 : (n : Int) ≤ (c : Int) := by omega
 have z6 : ((k : Int) + 1).toNat = k + 1 := by omega
 have z7 : (k : Int) ≤ (k : Int) + 1 := by omega
 have z8 : (k : Int) + 1 ≤ (c : Int) := by omega
 have z9 : ((k : Int) == (k : Int) + 1) = false := by simp; omega
 clear h
 obtain ⟨q, hq⟩ : ∃ q, k + (n - (k + 1)) = q := ⟨_, rfl⟩
 have hq1 : q + 1 = n := by omega
 have fin : ∀ w2 : World, OwD w2 lo (some ⟨g, 0, none⟩) c q (ds.take k ++ ds.drop (k + 1)) → Ch (· = g) w w2 →
     (∀ ty, (Builtin.clear_ #[38] ty #[.slice (some ⟨g, q * 5, none⟩) (n - q) (c - q)]).run Tryz.prog w2 = .ok (.tuple #[]) (w2.setCells g (q * 5) (Sw.Deal.enc Sw.dealZ))) ∧
     OwD (w2.setCells g (q * 5) (Sw.Deal.enc Sw.dealZ)) lo (some ⟨g, 0, none⟩) c (n - 1) (ds.eraseIdx k) ∧ Ch (· = g) w (w2.setCells g (q * 5) (Sw.Deal.enc Sw.dealZ)) := by
   intro w2 h3 hb
   rw [take_drop_erase] at h3
   rw [show n - q = 1 by omega, show n - 1 = q by omega]
   have hth := h3.there
   refine ⟨fun ty => ?_, ?_, Ch.setCells (S := (· = g)) (.inl rfl) _ _ _ hb⟩
   · exact run_clear_cellsK w2 38 105 ty (.agg #[.int .i64 0, .int .i64 0, .int .i64 0, .int .i64 0, .int .i64 0]) (Sw.Deal.enc Sw.dealZ) (by kernel_rfl) (fun w => by simp [go_sem]) g (q * 5) 1 _ (by omega) (by kernel_rfl) (by intro v hv; simp [Sw.Deal.enc, Sw.dealZ] at hv; subst hv; rfl)
       (fun j hj => hth.1 _ (by have : (Sw.Deal.enc Sw.dealZ).length = 5 := rfl; omega)) (fun j hj => hth.2 _)
   · exact h3.over (m := q) (ys := ds.eraseIdx k) (by omega) (by have : (Sw.Deal.enc Sw.dealZ).length = 5 := rfl; omega) h3.1 (fun cur hc ht => by
       rw [List.append_assoc, List.take_append_of_le_length (by rw [List.length_take, hc]; omega), List.take_take, Nat.min_self, ht]) h3.2.1
 have Hfin := Lib.hid fin
 have q0 : (0 : Int) ≤ (q : Int) := by omega
 have q1 : (q : Int) ≤ (n : Int) := by omega
 have q2 : ¬ c = q := by omega
 have q3 : (q : Int) ≤ (c : Int) := by omega
 clear fin
 by_cases hck : c = k + 1
 · rw [if_pos hck] at s2
   subst hck
   obtain rfl : n = k + 1 := by omega
   obtain rfl : q = k := by omega
   simp only [Nat.sub_self] at s2
   have hs2 := Lib.hid s2
   clear s2 hq
   go_enter Tryz.func264, Tryz.ntmps264
   go_wp2_with fail
   go_region_law (refine step_appR (lo := lo) el_D one_D (fun _ => rfl) rfl rfl (by simp [Act.eval, Act.put]; done) (by simp [Act.eval, Act.put]; done) (hfront.out.keep (by (exact kf_))) (hs2.out.keep (by (exact kf_))) (by omega) (fun w2 ho1 hch1 => ?_))
   all_goals
     simp only [Nat.add_zero] at ho1
     obtain ⟨f1, f2, f3⟩ := Hfin.out w2 ho1 ((cD (cR _ _)).trans' hch1 (fun i _ hi => hi))
     clear ho1 hch1
     simp only [Nat.add_sub_cancel_left] at f1
     go_wp2_with (at_builtin; refine wpList_clearK rfl rfl rfl (f1 _) ?_)
     go_ret
     exact ⟨rfl, f2, f3⟩
 · rw [if_neg hck] at s2
   simp only [Option.map_some, Addr.add_lit, Nat.zero_add] at s2
   have hs2 := Lib.hid s2
   clear s2
   go_enter Tryz.func264, Tryz.ntmps264
   go_wp2_with fail
   go_region_law (refine step_appR (lo := lo) el_D one_D (fun _ => rfl) rfl rfl (by simp [Act.eval, Act.put]; done) (by simp [Act.eval, Act.put]; done) (hfront.out.keep (by (exact kf_))) (hs2.out.keep (by (exact kf_))) (by omega) (fun w2 ho1 hch1 => ?_))
   all_goals
     (try rw [hq] at ho1)
     (try rw [hq])
     obtain ⟨f1, f2, f3⟩ := Hfin.out w2 ho1 ((cD (cR _ _)).trans' hch1 (fun i _ hi => hi))
     clear ho1 hch1
     go_wp2_with (at_builtin; refine wpList_clearK rfl rfl rfl (f1 _) ?_)
     go_ret
     exact ⟨by rw [show n - 1 = q by omega]; rfl, f2, f3⟩
set_option maxHeartbeats 2000000
theorem iAbout_c (gt : Nat) (t : Int) (d : Sw.Deal) (w : World) (hgt : w.cell? ⟨gt, 0, none⟩ = some (.int .i64 t)) : Calls Tryz.prog 203 #[.agg #[.int .i64 d.ticket, .int .i64 d.seller, .int .i64 d.price, .int .i64 d.buyer, .int .i64 d.due], .pointer (some ⟨gt, 0, none⟩)] w fun E w' => E = .returned (.bool (isAbout t d)) ∧ Ex w w' := by
 have hlt : gt < w.heap.size := by
   rcases Nat.lt_or_ge gt w.heap.size with h | h
   · exact h
   · simp [World.cell?, Array.getElem?_eq_none h] at hgt
 obtain ⟨p, q, r, s, u⟩ := d
 dsimp only
 go_enter Tryz.func203, Tryz.ntmps203
 go_wp2_with fail
 go_ret
 exact ⟨ret_b (by simp [isAbout, beqI]), ext_⟩
theorem iAboutAt_c (gt : Nat) (t : Int) (A : Option Addr) (c n : Nat) (xs : List Sw.Deal) (w : World) (hxs : RDl w 0 A c n xs) (hgt : w.cell? ⟨gt, 0, none⟩ = some (.int .i64 t)) (hlg : gt < w.heap.size) : Calls Tryz.prog 202 #[.slice A n c, .func (.func 203) #[] #[.pointer (some ⟨gt, 0, none⟩)]] w fun E w' => E = .returned (.int .i64 (hitAt (isAbout t) xs)) ∧ Ex w w' := by
 have hl := Lib.hid hxs.1
 have hbig := Rs.big hxs
 go_enter Tryz.func202, Tryz.ntmps202
 go_wp2_with fail
 go_loopw [8] (fun i wr => ∃ k : Nat, k ≤ n ∧ i = .int .i64 k ∧ Ex w wr ∧ ∀ j, j < k → ∀ z, xs[j]? = some z → isAbout t z = false) (fun i _ => n - (intOf i).toNat)
 case atStart => exact ⟨0, Nat.zero_le _, rfl, (by exact ext_), by omega⟩
 case round =>
   obtain ⟨k, hk, rfl, hb2, hrel⟩ := hrel
   have Hrel := Lib.hid hrel; clear hrel
   have hst := xr hb2
   (try simp only [zq_] at hst)
   obtain ⟨hc2, hf2, hz2⟩ := hst
   by_cases hlt : k < n
   · obtain ⟨g, off, y, rfl, hg0, hg, hd, hy, hca0, hca1, hca2, hca3, hca4⟩ := at_D hxs hlt
     have Hy := Lib.hid hy; clear hd hy
     cases hmx : isAbout t y
     case true =>
       go_wp2_with (go_at_call 203; apply Calls.mono; apply (iAbout_c (t := t)); (exact (hb2.cell (p := ⟨gt, 0, none⟩) hlg (fun h => h)).trans hgt); rintro E w1 ⟨rfl, hb⟩; obtain ⟨hc, hf, hz⟩ := xy hb)
       go_ret
       exact ⟨ret_i (hitAt_here Hy.out Hrel.out hmx).symm, (by exact ext_)⟩
     case false =>
       go_wp2_with (go_at_call 203; apply Calls.mono; apply (iAbout_c (t := t)); (exact (hb2.cell (p := ⟨gt, 0, none⟩) hlg (fun h => h)).trans hgt); rintro E w1 ⟨rfl, hb⟩; obtain ⟨hc, hf, hz⟩ := xy hb)
       go_roundw
       case rel => exact ⟨k + 1, by omega, by go_num, (by exact ext_), notHit_step Hy.out Hrel.out hmx⟩
       case measure => simp [intOf]; omega
   · go_wp2_with fail
     go_ret
     exact ⟨ret_i (hitAt_none (by have := hl.out; omega) Hrel.out).symm, (by exact ext_)⟩
theorem iDeal_c (aL : Option Addr) (aLc aLn : Nat) (aP : Option Addr) (aPc aPn : Nat) (aD : Option Addr) (aDc aDn : Nat) (aN : Option Addr) (aNc aNn : Nat) (aS : Option Addr) (aSc aSn : Nat) (m : Sw.Mkt) (t : Int) (w : World) (hD : RDl w 0 aD aDc aDn m.deals) : Calls Tryz.prog 137 #[.agg #[.slice aL aLn aLc, .slice aP aPn aPc, .slice aD aDn aDc, .int .i64 m.clock, .slice aN aNn aNc, .slice aS aSn aSc], .int .i64 t] w fun E w' => E = .returned (.int .i64 (Sw.dealIx m.deals t)) ∧ Ex w w' := by
 have He := Lib.hid (dealIx_hit m.deals t)
 go_enter Tryz.func137, Tryz.ntmps137
 go_wp2_with fail
 (go_at_call 202)
 (apply Calls.mono; apply (iAboutAt_c (t := t)); (apply Rs.at0 hD; (exact kf_)); (simp [go_sem]); exact sz_; rintro E w1 ⟨rfl, hb⟩; obtain ⟨hc, hf, hz⟩ := xy hb)
 go_wp2
 go_ret
 exact ⟨ret_i He.out.symm, ext_⟩
theorem iRows_c (aL : Option Addr) (aLc aLn : Nat) (aP : Option Addr) (aPc aPn : Nat) (aD : Option Addr) (aDc aDn : Nat) (aN : Option Addr) (aNc aNn : Nat) (aS : Option Addr) (aSc aSn : Nat) (m : Sw.Mkt) (w : World) (hL : RE w 0 aL aLc aLn m.log) : Calls Tryz.prog 56 #[.agg #[.slice aL aLn aLc, .slice aP aPn aPc, .slice aD aDn aDc, .int .i64 m.clock, .slice aN aNn aNc, .slice aS aSn aSc]] w fun E w' => ∃ A' c' n', E = .returned (.slice A' n' c') ∧ OwR w' w.heap.size A' c' n' (Sw.mktRows m) ∧ Ex w w' := by
 go_enter Tryz.func56, Tryz.ntmps56
 go_wp2_with (go_at_call 120; apply Calls.mono; apply iOwnFold_c; (exact rdw_); rintro E w1 ⟨A', c', n', rfl, ho, hb⟩; obtain ⟨hc, hf, hz⟩ := xy hb)
 go_ret
 exact ⟨_, _, _, rfl, (ho.keep (by (exact kf_))).less (by exact sz_), ext_⟩
end Go.Proofs.YtnnoiagommiapaaGreat
namespace Go.Proofs.YtnnoiagommiapaaGreat
open Go.RowKit Go
set_option maxHeartbeats 1000000
structure MkM (w : World) (lo : Nat) (aL : Option Addr) (aLc aLn : Nat) (aP : Option Addr) (aPc aPn : Nat) (aD : Option Addr) (aDc aDn : Nat) (aN : Option Addr) (aNc aNn : Nat) (aS : Option Addr) (aSc aSn : Nat) (k : Int) : Prop where
 log : Rd w lo aL aLc 4 aLn (FI (marks k (aLn * 4)))
 purses : RI w lo aP aPc aPn (marks (k + (aLn : Int) * 4) aPn)
 deals : Rd w lo aD aDc 5 aDn (FI (marks (k + (aLn : Int) * 4 + aPn) (aDn * 5)))
 nums : RI w lo aN aNc aNn (marks (k + (aLn : Int) * 4 + aPn + (aDn : Int) * 5) aNn)
 said : RI w lo aS aSc aSn (marks (k + (aLn : Int) * 4 + aPn + (aDn : Int) * 5 + aNn) aSn)
theorem MkM.keep {w w' : World} {lo : Nat} {aL : Option Addr} {aLc aLn : Nat} {aP : Option Addr} {aPc aPn : Nat} {aD : Option Addr} {aDc aDn : Nat} {aN : Option Addr} {aNc aNn : Nat} {aS : Option Addr} {aSc aSn : Nat} {k : Int} (h : MkM w lo aL aLc aLn aP aPc aPn aD aDc aDn aN aNc aNn aS aSc aSn k) (hk : KF lo w w') : MkM w' lo aL aLc aLn aP aPc aPn aD aDc aDn aN aNc aNn aS aSc aSn k := ⟨h.1.keep hk, h.2.keep hk, h.3.keep hk, h.4.keep hk, h.5.keep hk⟩
theorem MkM.less {w : World} {lo lo' : Nat} {aL : Option Addr} {aLc aLn : Nat} {aP : Option Addr} {aPc aPn : Nat} {aD : Option Addr} {aDc aDn : Nat} {aN : Option Addr} {aNc aNn : Nat} {aS : Option Addr} {aSc aSn : Nat} {k : Int} (h : MkM w lo aL aLc aLn aP aPc aPn aD aDc aDn aN aNc aNn aS aSc aSn k) (hl : lo' ≤ lo) : MkM w lo' aL aLc aLn aP aPc aPn aD aDc aDn aN aNc aNn aS aSc aSn k := ⟨h.1.less hl, h.2.less hl, h.3.less hl, h.4.less hl, h.5.less hl⟩
section
variable {α : Type} {enc : α → List Value} {sz : Nat} {e : TypeId} {τ : Nat → Nat} {t u : Nat} {w w' w0 : World} {lo c n : Nat} {A : Option Addr} {xs : List α}
end
end Go.Proofs.YtnnoiagommiapaaGreat
namespace Go.Proofs.YtnnoiagommiapaaGreat
open Go.RowKit Go
set_option maxHeartbeats 1000000
def Sw.Mkt.len (m : Sw.Mkt) : Nat := m.log.length + m.purses.length + m.deals.length + m.nums.length + m.said.length
section
variable {τ : Nat → Nat} {w w' w0 : World} {lo lo' hi : Nat}
theorem RM.len {aL : Option Addr} {aLc aLn : Nat} {aP : Option Addr} {aPc aPn : Nat} {aD : Option Addr} {aDc aDn : Nat} {aN : Option Addr} {aNc aNn : Nat} {aS : Option Addr} {aSc aSn : Nat} {m : Sw.Mkt} (h : RM w lo aL aLc aLn aP aPc aPn aD aDc aDn aN aNc aNn aS aSc aSn m) : aLn + aPn + aDn + aNn + aSn = m.len := by
 have h1 := h.1.1; have h2 := h.2.1; have h3 := h.3.1; have h4 := h.4.1; have h5 := h.5.1
 unfold Sw.Mkt.len; omega
theorem KF.trans {a b c : World} (h : KF lo a b) (k : KF lo b c) : KF lo a c :=
 ⟨Nat.le_trans h.size k.size, fun i h1 h2 => (k.block i h1 (Nat.lt_of_lt_of_le h2 h.size)).trans (h.block i h1 h2)⟩
def RG2 (l h : Nat) : Nat → Prop := fun b => l ≤ b ∧ b < h
end
end Go.Proofs.YtnnoiagommiapaaGreat
namespace Go.Proofs.YtnnoiagommiapaaGreat
open Go.RowKit Go
set_option maxHeartbeats 1000000
inductive AllocSt (τ : Nat → Nat) (t : Nat) (w : World) (lo n : Nat) : Bool → Value → Prop
 | none (v : Value) : AllocSt τ t w lo n false v
 | done (g : Nat) (hg : lo ≤ g) (hl : Lb w g n) (ht : τ g = t) : AllocSt τ t w lo n true (.pointer (some ⟨g, 0, none⟩))
inductive BuildSt (f : Value → Value) (u : Value) : Bool → Bool → Value → Prop
 | none (r : Bool) (v : Value) : BuildSt f u r false v
 | done : BuildSt f u true true (f u)
section
variable {τ : Nat → Nat} {t s : Nat} {w w' : World} {lo n : Nat} {r : Bool} {u : Value} {A : Option Addr}
theorem AllocSt.alloc {o : Obj} (h : AllocSt τ t w lo n r u) : AllocSt (glue τ w.heap.size (fun _ => s)) t (w.alloc o) lo n r u := by
 cases h with
 | none => exact .none _
 | done g hg hl ht => exact .done g hg hl.alloc (by unfold glue; rw [if_pos hl.lt]; exact ht)
theorem AllocSt.ex (h : AllocSt τ t w lo n r u) (hb : Ex w w') : AllocSt (glue τ w.heap.size (fun _ => s)) t w' lo n r u := by
 cases h with
 | none => exact .none _
 | done g hg hl ht => exact .done g hg (hl.ex hb) (by unfold glue; rw [if_pos hl.lt]; exact ht)
theorem AllocSt.app (h : AllocSt τ t w lo n r u) (hb : Ch (atA A) w w') (ht : ∀ a, A = some a → τ a.block = s) (hne : t ≠ s) : AllocSt (glue τ w.heap.size (fun _ => s)) t w' lo n r u := by
 cases h with
 | none => exact .none _
 | done g hg hl hτ =>
   refine .done g hg (Lb.chk hb hl ?_) (by unfold glue; rw [if_pos hl.lt]; exact hτ)
   rintro ⟨a, ha, hi⟩
   exact hne (by rw [← hτ, hi]; exact ht a ha)
theorem BuildSt.chg {f : Value → Value} {u u' : Value} {m : Bool} {v : Value} (h : BuildSt f u false m v) (r : Bool) : BuildSt f u' r m v := by
 cases h with
 | none => exact .none _ _
end
def gv0 (h : Sw.Head) : GV := ⟨h, none, 0, 0⟩
structure WN (τ : Nat → Nat) (w : World) (lo : Nat) (F : Option Addr) (Fc Fn : Nat) (aL : Option Addr) (aLc aLn : Nat) (aP : Option Addr) (aPc aPn : Nat) (aD : Option Addr) (aDc aDn : Nat) (aN : Option Addr) (aNc aNn : Nat) (aS : Option Addr) (aSc aSn : Nat) (G : Option Addr) (Gc Gn : Nat) (x : Sw.World) : Prop where
 first : OwTI τ 6 w lo F Fc Fn x.first
 mkt : OwM τ w lo aL aLc aLn aP aPc aPn aD aDc aDn aN aNc aNn aS aSc aSn x.market
 gates : OwTG τ 8 w lo G Gc Gn (x.gates.map fun g => gv0 g.head)
 gone : ∀ g ∈ x.gates, g.done = []
 lines : x.lines = []
 bag : x.bag = []
section
variable {τ τ' : Nat → Nat} {w w' : World} {lo lo' Fc Fn Gc Gn k : Nat} {F G : Option Addr}
theorem WN.rw_ {aL : Option Addr} {aLc aLn : Nat} {aP : Option Addr} {aPc aPn : Nat} {aD : Option Addr} {aDc aDn : Nat} {aN : Option Addr} {aNc aNn : Nat} {aS : Option Addr} {aSc aSn : Nat} {x : Sw.World} (h : WN τ w lo F Fc Fn aL aLc aLn aP aPc aPn aD aDc aDn aN aNc aNn aS aSc aSn G Gc Gn x) : RW w lo F Fc Fn aL aLc aLn aP aPc aPn aD aDc aDn aN aNc aNn aS aSc aSn none 0 0 G Gc Gn none 0 0 x := by
 refine ⟨h.first.rs, h.mkt.rm, ?_, ⟨_, h.gates.rs, ?_, ?_⟩, ⟨[], ?_, ?_, ?_⟩⟩
 · rw [h.lines]; exact (Ow.nil (enc := Sw.Req.enc) (sz := 6) (e := 82) _ lo).rs
 · rw [h.gates.ow.1, List.length_map]
 · intro j v g hv hg
   rw [List.getElem?_map, hg] at hv
   obtain rfl : gv0 g.head = v := by simpa using hv
   refine ⟨rfl, ?_⟩
   rw [h.gone g (List.mem_of_getElem? hg)]
   exact (Ow.nil (enc := encI) (sz := 1) (e := 3) _ lo).rs
 · exact (Ow.nil (enc := XV.enc) (sz := 5) (e := 92) _ lo).rs
 · rw [h.bag]; rfl
 · intro j v m hv; simp at hv
theorem WN.less {aL : Option Addr} {aLc aLn : Nat} {aP : Option Addr} {aPc aPn : Nat} {aD : Option Addr} {aDc aDn : Nat} {aN : Option Addr} {aNc aNn : Nat} {aS : Option Addr} {aSc aSn : Nat} {x : Sw.World} (h : WN τ w lo F Fc Fn aL aLc aLn aP aPc aPn aD aDc aDn aN aNc aNn aS aSc aSn G Gc Gn x) (hl : lo' ≤ lo) : WN τ w lo' F Fc Fn aL aLc aLn aP aPc aPn aD aDc aDn aN aNc aNn aS aSc aSn G Gc Gn x := ⟨h.1.less hl, h.2.less hl, h.3.less hl, h.4, h.5, h.6⟩
end
end Go.Proofs.YtnnoiagommiapaaGreat

/- Texts joined: PtrI. -/
import Derived.Test.YtnnoiagommiapaaGreatPz3
import Derived.Test.YtnnoiagommiapaaGreatPz33
import Derived.Deep.CutBlock
import Derived.Deep.DeepCutAuto
set_option maxRecDepth 100000
set_option linter.unusedSimpArgs false
set_option linter.unusedVariables false
namespace Go.Proofs.YtnnoiagommiapaaGreat
open Go.RowKit Go
set_option maxHeartbeats 8000000
abbrev HeldE (g gD : Nat) (W w : World) : Prop :=
 (∀ b o, ¬ ((⟨b, 0, none⟩ : Addr) = ⟨b - W.heap.size + W.heap.size, 0, none⟩) → ¬ ((⟨b, 0, none⟩ : Addr) = ⟨g, 0, none⟩) → ¬ ((⟨b, 0, none⟩ : Addr) = ⟨gD, 0, none⟩) → w.cell? ⟨b, o, none⟩ = W.cell? ⟨b, o, none⟩) ∧ Ch (fun i => i = g ∨ i = gD) W w
theorem HeldE.of {g gD : Nat} {W w : World} (h : Ch (fun i => i = g ∨ i = gD) W w) : HeldE g gD W w :=
 ⟨fun b o h1 h2 h3 => h.cell (p := ⟨b, o, none⟩) (by simp at h1; show b < _; omega) (by rintro (e | e); exact h2 (by rw [show b = g from e]); exact h3 (by rw [show b = gD from e])), h⟩
theorem HeldE.start (g gD : Nat) (W : World) : HeldE g gD W W.drew := .of (Ch.refl _ _).drew
theorem HeldE.refl (g gD : Nat) (W : World) : HeldE g gD W W := .of (Ch.refl _ _)
theorem HeldE.drew {g gD : Nat} {W w : World} (h : HeldE g gD W w) : HeldE g gD W w.drew := .of h.2.drew
theorem HeldE.alloc {g gD : Nat} {W w : World} (h : HeldE g gD W w) (o : Obj) : HeldE g gD W (w.alloc o) := .of (h.2.alloc o)
theorem HeldE.set {g gD : Nat} {W w : World} {p : Addr} {u : Value} (h : HeldE g gD W w) (hp : p.block = g) : HeldE g gD W (w.setCell p u) := .of (h.2.setCell (.inl (.inl hp)) u)
theorem HeldE.app {g gD : Nat} {W w w' : World} {A : Option Addr} (h : HeldE g gD W w) (hc : Ch (atA A) w w') (hA : ∀ a, A = some a → a.block = gD) : Ch (fun i => i = g ∨ i = gD) W w' :=
 h.2.trans' hc fun i _ ⟨a, ha, e⟩ => .inr (e.trans (hA a ha))
theorem insertDeal_at {d : Sw.Deal} : ∀ {ds : List Sw.Deal} {k : Nat}, k ≤ ds.length → (∀ j x, j < k → ds[j]? = some x → x.ticket < d.ticket) → (∀ x, ds[k]? = some x → d.ticket < x.ticket) → Sw.insertDeal d ds = ds.take k ++ d :: ds.drop k
 | [], k, hk, _, _ => by
   obtain rfl : k = 0 := by simpa using hk
   rfl
 | y :: ys, 0, _, _, h => by
   have := h y rfl
   rw [Sw.insertDeal, if_pos this]; rfl
 | y :: ys, k + 1, hk, h1, h2 => by
   have := h1 0 y (by omega) rfl
   rw [Sw.insertDeal, if_neg (by omega), insertDeal_at (k := k) (by simpa using hk) (fun j x hj hx => h1 (j + 1) x (by omega) (by simpa using hx)) (fun x hx => h2 x (by simpa using hx))]
   rfl
theorem lit1D {W : World} {gl : Nat} (d : Sw.Deal) (h : gl = W.heap.size) : RDl (W.alloc (.cells #[.int .i64 d.ticket, .int .i64 d.seller, .int .i64 d.price, .int .i64 d.buyer, .int .i64 d.due] 105)) 0 (some ⟨gl, 0, none⟩) 1 1 [d] :=
 Rs.new (enc := Sw.Deal.enc) (sz := 5) [d] h rfl rfl (fun _ => rfl) (by decide)
section
variable {g o n lo : Nat} {τ0 τ : Nat → Nat} {w0 w : World} {aL : Option Addr} {aLc aLn : Nat} {aP : Option Addr} {aPc aPn : Nat} {aD : Option Addr} {aDc aDn : Nat} {aN : Option Addr} {aNc aNn : Nat} {aS : Option Addr} {aSc aSn : Nat} {m : Sw.Mkt}
theorem iEffect2_c (hS : MS g o n lo τ0 w0 aL aLc aLn aP aPc aPn aD aDc aDn aN aNc aNn aS aSc aSn m τ w) (ru rn : Int) (t : Nat) (rh rp : Int) {rows : List Sw.Row} (hok : Sw.MOk m rows) (ht : t < 8) (hu1 : 1 ≤ ru) (hu5 : ru ≤ 5) : Calls Tryz.prog 183 #[.pointer (some ⟨g, o, none⟩), .agg #[.int .i64 ru, .int .i64 rn, .int .i64 2, .int .i64 t, .int .i64 rh, .int .i64 rp]] w fun E w' =>
   EffPost g o n lo τ0 w0 w' E (Sw.offer m ⟨ru, rn, 2, t, rh, rp⟩ (Sw.rowAt rows t) (Sw.dealAt m.deals t)) := by
 have hSw := hS
 obtain ⟨k0, k1, k2, k3, k4, k5, k6, kf⟩ := hS.at_
 have HS := Lib.hid hS
 have hLr := hS.ow.log.ow.rs
 have hDr := hS.ow.deals.ow.rs
 have hpn : aPn ≤ 4194304 := by have := hS.ow.purses.ow.1; have := (Sw.monOk_iff.1 hok.mon).1; omega
 have HL := Lib.hid (Sw.ownFold_some.1 hok.fold).1
 have HO := Lib.hid hok.fold
 have HK := Lib.hid hok
 have i0 : (0 : Int) ≤ (t : Int) := by omega
 have i1 : (t : Int) < 8 := by omega
 obtain ⟨ai, hat⟩ : ∃ z, z = Sw.dealIx m.deals t := ⟨_, rfl⟩
 have HA := Lib.hid hat
 clear hS hSw hok hat
 go_enter Tryz.func183, Tryz.ntmps183
 go_upto_region 1 with fail
 go_cut [5] (fun p wx => ∃ gb : Nat, p = .pointer (some ⟨gb, 0, none⟩) ∧ w.heap.size + 1 ≤ gb ∧ gb < wx.heap.size ∧ wx.cell? ⟨gb, 0, none⟩ = some (.int .i64 (Sw.rowAt rows t).who) ∧ wx.cell? ⟨gb, 1, none⟩ = some (.int .i64 (Sw.rowAt rows t).face) ∧ wx.cell? ⟨gb, 2, none⟩ = some (.bool (Sw.rowAt rows t).used) ∧ Ex (w.alloc (.cells #[.int .i64 ru, .int .i64 rn, .int .i64 2, .int .i64 t, .int .i64 rh, .int .i64 rp] 49)) wx)
 case first =>
   (focus (refine wn_ fun W0 hb0 hc0 hf0 hz0 => ?_; refine wp_regionX [] (S := fun w' => Held W0 w') hdH (fun hHeld => ?_); refine GoesX.take 0 8 [] hHeld (h := ?_); refine GoesX.take 1 9 [] hHeld (h := ?_); refine GoesX.take 2 10 [] hHeld (h := ?_); refine GoesX.take 4 12 [] hHeld (h := ?_); refine GoesX.take 5 13 [] hHeld (h := ?_); refine GoesX.ready (rs := [3, 8]) (by kernel_rfl) (by simp) ?_; refine EachX.cons rfl (fun K hK => ?_) ?_; rotate_left; refine EachX.cons rfl (fun K hK => ?_) EachX.nil; (focus (go_simp; refine outS hK hdH (h := ?_); clear hK K hHeld; intro hHeld; refine GoesX.one 3 (h := fun K hK => ?_); go_simp; (go_at_call 56; apply Calls.mono; apply (iRowsT_c (rows := rows) (t := t)); (apply Rs.at0 hLr; (exact kf_)); exact HO.out; exact ht; rintro E w1 ⟨gr, dr, rfl, ⟨hoR, hgR0, hgR, q0, q1, q2⟩, hb⟩; obtain ⟨hc, hf, hz⟩ := xy hb); (try go_wp2_with fail); refine outS hK hdH (h := ?_); clear hK K hHeld; intro hHeld; refine GoesX.take 6 14 [] hHeld (h := ?_); refine GoesX.one 7 (h := fun K hK => ?_); go_simp; refine outS hK hdH (h := ?_); clear hK K hHeld; intro hHeld; refine GoesX.one 9 (h := fun K hK => ?_); go_simp; refine outS hK hdH (h := ?_); clear hK K hHeld; intro hHeld; refine GoesX.done (by kernel_rfl) ?_ _; all_goals (obtain ⟨hb, hc, hf, hz⟩ := xh (by assumption : Held W0 _)))); rotate_right 1; (focus (go_simp; (go_at_call 56; apply Calls.mono; apply (iRowsT_c (rows := rows) (t := t)); (apply Rs.at0 hLr; (exact kf_)); exact HO.out; exact ht; rintro E w1 ⟨gr, dr, rfl, ⟨hoR, hgR0, hgR, q0, q1, q2⟩, hb⟩; obtain ⟨hc, hf, hz⟩ := xy hb); (try go_wp2_with fail); refine outS hK hdH (h := ?_); clear hK K hHeld; intro hHeld; refine GoesX.take 6 14 [] hHeld (h := ?_); refine GoesX.ready (rs := [7, 8]) (by kernel_rfl) (by simp) ?_; refine EachX.cons rfl (fun K hK => ?_) ?_; rotate_left; refine EachX.cons rfl (fun K hK => ?_) EachX.nil; (focus (go_simp; refine outS hK hdH (h := ?_); clear hK K hHeld; intro hHeld; refine GoesX.one 7 (h := fun K hK => ?_); go_simp; refine outS hK hdH (h := ?_); clear hK K hHeld; intro hHeld; refine GoesX.one 9 (h := fun K hK => ?_); go_simp; refine outS hK hdH (h := ?_); clear hK K hHeld; intro hHeld; refine GoesX.done (by kernel_rfl) ?_ _; all_goals (obtain ⟨hb, hc, hf, hz⟩ := xh (by assumption : Held W0 _)))); rotate_right 1; (focus (go_simp; refine outS hK hdH (h := ?_); clear hK K hHeld; intro hHeld; refine GoesX.one 8 (h := fun K hK => ?_); go_simp; refine outS hK hdH (h := ?_); clear hK K hHeld; intro hHeld; refine GoesX.one 9 (h := fun K hK => ?_); go_simp; refine outS hK hdH (h := ?_); clear hK K hHeld; intro hHeld; refine GoesX.done (by kernel_rfl) ?_ _; all_goals (obtain ⟨hb, hc, hf, hz⟩ := xh (by assumption : Held W0 _))))))))
   all_goals go_wp2_with fail
   all_goals go_meet
   all_goals exact ⟨_, rfl, sz_, sz_, co_, co_, co_, ext_⟩
 case rest =>
   obtain ⟨gb, rfl, hgb0, hgb1, q0, q1, q2, hb⟩ := hcut
   obtain ⟨hc, hf, hz⟩ := xy hb
   go_wp2_with fail
   (refine wn_ fun W0 hb0 hc0 hf0 hz0 => ?_; refine wp_region_held_drew (S := fun w' => Held W0 w') (by kernel_rfl) ?_ (fun hHeld => ?_); (focus ((try dsimp only); (exact hq_))); refine rT 0 16 (h := ?_); refine rT 1 17 (h := ?_); refine rT 2 18 (h := ?_); refine rT 3 19 (h := ?_); refine rT 4 20 (h := ?_); refine wpAnyH_ready (rs := [5]) (by kernel_rfl) (by simp) ?_; refine AllReadyH.cons rfl (fun K hK => ?_) ?_; rotate_left; (focus exact AllReadyH.nil); go_simp; (go_at_call 137; apply Calls.mono; apply iDeal_c; (apply Rs.at0 hDr; (exact kf_)); rintro E w2 ⟨rfl, hb⟩; rw [← HA.out]; obtain ⟨hc, hf, hz⟩ := xy hb); (try go_wp2_with fail); refine hK.out _ _ ?_ (fun hHeld => ?_); (focus ((try dsimp only); (exact hq_))); clear hK K; (try simp only [Act.put, pz_]); refine rT 6 6 (h := ?_); refine wpAnyH_done (by kernel_rfl) ?_ _; all_goals (obtain ⟨hb, hc, hf, hz⟩ := xh (by assumption : Held W0 _)))
   all_goals clear hpn HO hLr HL
   by_cases h1 : (Sw.rowAt rows t).who = ru
   case neg =>
     have g1 : ((Sw.rowAt rows t).who == ru) = false := by simpa using h1
     have e : Sw.offer m ⟨ru, rn, 2, t, rh, rp⟩ (Sw.rowAt rows t) (Sw.dealAt m.deals t) = (m, 2) := by unfold Sw.offer; rw [if_pos h1]
     have He := Lib.hid e; clear e h1 HK
     go_wp2_with fail
     go_ret
     rw [He.out]
     exact ⟨_, _, _, _, _, _, _, _, _, _, _, _, _, _, _, τ, rfl, HS.out.ex ext_⟩
   have g1 : ((Sw.rowAt rows t).who == ru) = true := by simpa using h1
   cases h3 : Sw.dealAt m.deals t
   case some kd =>
     have e : Sw.offer m ⟨ru, rn, 2, t, rh, rp⟩ (Sw.rowAt rows t) (Sw.dealAt m.deals t) = (m, 3) := by rw [h3]; unfold Sw.offer; rw [if_neg (by simpa using h1), if_pos (.inl rfl)]
     have He := Lib.hid e
     obtain rfl : ai = (kd : Int) := HA.out.trans (dealIx_some h3)
     have j0 : (0 : Int) ≤ (kd : Int) := by omega
     clear e h1 h3 HK
     go_wp2_with fail
     go_ret
     rw [He.out]
     exact ⟨_, _, _, _, _, _, _, _, _, _, _, _, _, _, _, τ, rfl, HS.out.ex ext_⟩
   obtain rfl : ai = -1 := HA.out.trans (dealIx_none h3)
   cases h2 : (Sw.rowAt rows t).used
   case true =>
     have e : Sw.offer m ⟨ru, rn, 2, t, rh, rp⟩ (Sw.rowAt rows t) (Sw.dealAt m.deals t) = (m, 3) := by unfold Sw.offer; rw [if_neg (by simpa using h1), if_pos (.inr h2)]
     have He := Lib.hid e
     rw [h2] at q2
     clear e h1 h3 h2 HK
     go_wp2_with fail
     go_ret
     rw [He.out]
     exact ⟨_, _, _, _, _, _, _, _, _, _, _, _, _, _, _, τ, rfl, HS.out.ex ext_⟩
   rw [h2] at q2
   by_cases h4 : Sw.entCap (Sw.rowAt rows t).face < rp
   · have e : Sw.offer m ⟨ru, rn, 2, t, rh, rp⟩ (Sw.rowAt rows t) (Sw.dealAt m.deals t) = (m, 4) := by rw [h3]; unfold Sw.offer; rw [if_neg (by simpa using h1), if_neg (by simp [h2]), if_pos h4]
     have He := Lib.hid e
     clear e h1 h3 h2 HK
     go_wp2_with fail
     (go_quiet ((first | (go_at_call 190; exact Calls.quiet_same (iEntCap_c _ _)))); all_goals (generalize hWq : World.drewN _ nq = W0; have hb0 := Ex.ofN hWq; clear hWq; obtain ⟨hc0, hf0, hz0⟩ := xy hb0))
     go_wp2
     go_ret
     rw [He.out]
     exact ⟨_, _, _, _, _, _, _, _, _, _, _, _, _, _, _, τ, rfl, HS.out.ex ext_⟩
   have e : Sw.offer m ⟨ru, rn, 2, t, rh, rp⟩ (Sw.rowAt rows t) (Sw.dealAt m.deals t) = ({ m with deals := Sw.insertDeal ⟨t, ru, rp, 0, 0⟩ m.deals }, 1) := by rw [h3]; unfold Sw.offer; rw [if_neg (by simpa using h1), if_neg (by simp [h2]), if_neg h4]
   have He := Lib.hid e
   have hno := Lib.hid (Sw.dealAt_none h3)
   have hris := Lib.hid HK.out.deals.2
   have l3 := Lib.hid HS.out.ow.deals.ow.1
   have hd8 := HK.out.dlen
   have hn8 : aDn ≤ 8 := by have := l3.out; omega
   clear e h1 h3 h2 HK hd8
   go_wp2_with fail
   (go_quiet ((first | (go_at_call 190; exact Calls.quiet_same (iEntCap_c _ _)))); all_goals (generalize hWq : World.drewN _ nq = W0; have hb0 := Ex.ofN hWq; clear hWq; obtain ⟨hc0, hf0, hz0⟩ := xy hb0))
   go_upto_block 3 with fail
   go_cut [6] (fun a wx => ∃ j : Nat, a = .int .i64 j ∧ j ≤ aDn ∧ (∀ i x, i < j → m.deals[i]? = some x → x.ticket < t) ∧ (∀ x, m.deals[j]? = some x → (t : Int) ≤ x.ticket) ∧ Ex W0 wx)
   case first =>
     go_wp2_with fail
     go_loopw [6] (fun a wr => ∃ j : Nat, j ≤ aDn ∧ a = .int .i64 j ∧ Ex W0 wr ∧ ∀ i x, i < j → m.deals[i]? = some x → x.ticket < t) (fun a _ => aDn - (intOf a).toNat)
     case atStart => exact ⟨0, Nat.zero_le _, rfl, Ch.refl _ _, by omega⟩
     case round =>
       obtain ⟨j, hj, rfl, hb9, hlow⟩ := hrel
       have hst := xr hb9
       (try simp only [zq_] at hst)
       obtain ⟨hc9, hf9, hz9⟩ := hst
       have Hlow := Lib.hid hlow
       clear hlow
       have j0 : (0 : Int) ≤ (j : Int) := by omega
       by_cases hlt : j < aDn
       · obtain ⟨gD, x, hAD, hloD, hltD, hx, d0, d1, d2, d3, d4, hfD⟩ := at_OD HS.out.ow.deals.ow hlt
         subst hAD
         have HX := Lib.hid hx
         clear hx d1 d2 d3 d4
         have j1 : (j : Int) < (aDn : Int) := by omega
         have hwj : IntKind.i64.wrap ((j : Int) + 1) = (j : Int) + 1 := IntWalk.i64_in _ (by omega)
         by_cases hxt : x.ticket < (t : Int)
         · go_wp2_with fail
           (go_quiet ((first | fail)); all_goals (generalize hWq : World.drewN _ nq = W0; have hb0 := Ex.ofN hWq; clear hWq; obtain ⟨hc0, hf0, hz0⟩ := xy hb0))
           go_wp2_with fail
           go_roundw
           case rel =>
             refine ⟨j + 1, by omega, by go_num, ext_, fun i z hi hz => ?_⟩
             rcases Nat.lt_or_ge i j with h | h
             · exact Hlow.out i z h hz
             · obtain rfl : i = j := by omega
               have := HX.out
               rw [this] at hz
               cases hz
               exact hxt
           case measure => simp [intOf]; omega
         · go_wp2_with fail
           (go_quiet ((first | fail)); all_goals (generalize hWq : World.drewN _ nq = W0; have hb0 := Ex.ofN hWq; clear hWq; obtain ⟨hc0, hf0, hz0⟩ := xy hb0))
           go_wp2_with fail
           go_meet
           refine ⟨j, rfl, by omega, Hlow.out, fun z hz => ?_, ext_⟩
           have := HX.out
           rw [this] at hz
           cases hz
           omega
       · have j1 : ¬ (j : Int) < (aDn : Int) := by omega
         go_wp2_with fail
         (go_quiet ((first | fail)); all_goals (generalize hWq : World.drewN _ nq = W0; have hb0 := Ex.ofN hWq; clear hWq; obtain ⟨hc0, hf0, hz0⟩ := xy hb0))
         go_wp2_with fail
         go_meet
         refine ⟨j, rfl, by omega, Hlow.out, fun z hz => ?_, ext_⟩
         have := (List.getElem?_eq_some_iff.1 hz).1
         have := l3.out
         omega
   case rest =>
     obtain ⟨j, rfl, hj, hlow, hhigh, hb9⟩ := hcut
     have hst := xr hb9
     (try simp only [zq_] at hst)
     obtain ⟨hc9, hf9, hz9⟩ := hst
     have Hlow := Lib.hid hlow
     have Hhigh := Lib.hid hhigh
     clear hlow hhigh
     have hSg : ¬ atA aD g := fun ⟨a, ha, e⟩ => HS.out.ne (HS.out.ow.deals.tag a ha) (by decide) e.symm
     have HSg := Lib.hid hSg
     clear hSg
     have hlo := HS.out.lo_le
     have hbW : Ex w wc := ext_
     have j0 : (0 : Int) ≤ (j : Int) := by omega
     have hins : m.deals.take j ++ (⟨t, ru, rp, 0, 0⟩ : Sw.Deal) :: m.deals.drop j = Sw.insertDeal ⟨t, ru, rp, 0, 0⟩ m.deals :=
       (insertDeal_at (by have := l3.out; omega) Hlow.out (fun x hx => by
         have h1 := Hhigh.out x hx
         have h2 := hno.out x (List.mem_of_getElem? hx)
         show (t : Int) < x.ticket
         omega)).symm
     have HI := Lib.hid hins
     clear hins
     go_upto_region 22 with fail
     have rc3 : wc.cell? ⟨w.heap.size, 3, none⟩ = some (.int .i64 t) := co_
     have rc0 : wc.cell? ⟨w.heap.size, 0, none⟩ = some (.int .i64 ru) := co_
     have rc5 : wc.cell? ⟨w.heap.size, 5, none⟩ = some (.int .i64 rp) := co_
     have gc2 : wc.cell? ⟨g, o + 2, none⟩ = some (.slice aD aDn aDc) := co_
     have gf2 : wc.frozen? ⟨g, o + 2, none⟩ = false := co_
     have hws : w.heap.size + 1 ≤ wc.heap.size := sz_
     obtain ⟨gE, hgE⟩ : ∃ gE, (∀ a, aD = some a → a.block = gE) ∧ ¬ gE = w.heap.size := by
       cases aD with
       | none => exact ⟨w.heap.size + 1, fun a h => (by cases h), by omega⟩
       | some a => exact ⟨a.block, fun b h => (by cases h; rfl), by have := (HS.out.ow.deals.ow.blk rfl).2; omega⟩
     have HGE := Lib.hid hgE.1
     have hgEw := hgE.2
     have hgw : ¬ g = w.heap.size := by omega
     have HBW := And.intro hbW trivial
     clear hbW hgE k1 k2 k3 k4 k5 k6 kf q0 q1 q2 hc9 hf9 g1 hDr
     (repeat (rename Ex _ _ => zz; clear zz))
     ((repeat (rename Ch _ _ _ => zz; clear zz)); (repeat (rename Rdp _ _ _ => zz; clear zz)); (repeat (rename (∀ (b o : Nat), ¬ ((⟨b, 0, none⟩ : Addr) = ⟨b - _ + _, 0, none⟩) → _) => zz; clear zz)))
     have hbW := HBW.1
     trace_state
     (refine wn_ fun W0 hb0 hc0 hf0 hz0 => ?_)
     refine wp_region_held_drew (S := fun w' => HeldE g gE W0 w') (by kernel_rfl) ?_ (fun hHeld => ?_)
     focus ((try dsimp only); (first | with_reducible assumption | with_reducible exact HeldE.start _ _ _ | (refine HeldE.of ?_; with_reducible assumption) | ((repeat (first | with_reducible refine HeldE.set ?_ rfl | with_reducible refine HeldE.alloc ?_ _ | with_reducible refine HeldE.drew ?_)); (first | with_reducible assumption | with_reducible exact HeldE.refl _ _ _ | with_reducible exact HeldE.start _ _ _ | (refine HeldE.of ?_; with_reducible assumption)))))
     refine regT 0 93 (v := ?_) rfl rfl (by kernel_rfl) (by kernel_rfl) (by kernel_rfl) (fun _ _ _ h => h) (by rfl) ?_ (by assumption) ?_
     rotate_left
     focus (intro w hSw; (try dsimp only at hSw); go_simp; (try with_reducible rfl))
     try simp only [Act.put, List.getElem_toArray, List.getElem_cons_succ, List.getElem_cons_zero, List.setIfInBounds_toArray, List.set_cons_zero, List.set_cons_succ]
     refine regT 1 94 (v := ?_) rfl rfl (by kernel_rfl) (by kernel_rfl) (by kernel_rfl) (fun _ _ _ h => h) (by rfl) ?_ (by assumption) ?_
     rotate_left
     focus (intro w hSw; (try dsimp only at hSw); go_simp; (try with_reducible rfl))
     try simp only [Act.put, List.getElem_toArray, List.getElem_cons_succ, List.getElem_cons_zero, List.setIfInBounds_toArray, List.set_cons_zero, List.set_cons_succ]
     refine regT 2 95 (v := ?_) rfl rfl (by kernel_rfl) (by kernel_rfl) (by kernel_rfl) (fun _ _ _ h => h) (by rfl) ?_ (by assumption) ?_
     rotate_left
     focus (intro w hSw; (try dsimp only at hSw); go_simp; (try with_reducible rfl))
     try simp only [Act.put, List.getElem_toArray, List.getElem_cons_succ, List.getElem_cons_zero, List.setIfInBounds_toArray, List.set_cons_zero, List.set_cons_succ]
     refine regT 3 96 (v := ?_) rfl rfl (by kernel_rfl) (by kernel_rfl) (by kernel_rfl) (fun _ _ _ h => h) (by rfl) ?_ (by assumption) ?_
     rotate_left
     focus (intro w hSw; (try dsimp only at hSw); go_simp; (try with_reducible rfl))
     try simp only [Act.put, List.getElem_toArray, List.getElem_cons_succ, List.getElem_cons_zero, List.setIfInBounds_toArray, List.set_cons_zero, List.set_cons_succ]
     refine regT 5 98 (v := ?_) rfl rfl (by kernel_rfl) (by kernel_rfl) (by kernel_rfl) (fun _ _ _ h => h) (by rfl) ?_ (by assumption) ?_
     rotate_left
     focus (intro w hSw; (try dsimp only at hSw); go_simp; (try with_reducible rfl))
     try simp only [Act.put, List.getElem_toArray, List.getElem_cons_succ, List.getElem_cons_zero, List.setIfInBounds_toArray, List.set_cons_zero, List.set_cons_succ]
     refine regT 6 99 (v := ?_) rfl rfl (by kernel_rfl) (by kernel_rfl) (by kernel_rfl) (fun _ _ _ h => h) (by rfl) ?_ (by assumption) ?_
     rotate_left
     focus (intro w hSw; (try dsimp only at hSw); go_simp; (try with_reducible rfl))
     try simp only [Act.put, List.getElem_toArray, List.getElem_cons_succ, List.getElem_cons_zero, List.setIfInBounds_toArray, List.set_cons_zero, List.set_cons_succ]
     refine regT 7 100 (v := ?_) rfl rfl (by kernel_rfl) (by kernel_rfl) (by kernel_rfl) (fun _ _ _ h => h) (by rfl) ?_ (by assumption) ?_
     rotate_left
     focus (intro w hSw; (try dsimp only at hSw); go_simp; (try with_reducible rfl))
     try simp only [Act.put, List.getElem_toArray, List.getElem_cons_succ, List.getElem_cons_zero, List.setIfInBounds_toArray, List.set_cons_zero, List.set_cons_succ]
     refine regT 8 101 (v := ?_) rfl rfl (by kernel_rfl) (by kernel_rfl) (by kernel_rfl) (fun _ _ _ h => h) (by rfl) ?_ (by assumption) ?_
     rotate_left
     focus (intro w hSw; (try dsimp only at hSw); go_simp; (try with_reducible rfl))
     try simp only [Act.put, List.getElem_toArray, List.getElem_cons_succ, List.getElem_cons_zero, List.setIfInBounds_toArray, List.set_cons_zero, List.set_cons_succ]
     refine regT 9 102 (v := ?_) rfl rfl (by kernel_rfl) (by kernel_rfl) (by kernel_rfl) (fun _ _ _ h => h) (by rfl) ?_ (by assumption) ?_
     rotate_left
     focus (intro w hSw; (try dsimp only at hSw); go_simp; (try with_reducible rfl))
     try simp only [Act.put, List.getElem_toArray, List.getElem_cons_succ, List.getElem_cons_zero, List.setIfInBounds_toArray, List.set_cons_zero, List.set_cons_succ]
     refine regT 10 103 (v := ?_) rfl rfl (by kernel_rfl) (by kernel_rfl) (by kernel_rfl) (fun _ _ _ h => h) (by rfl) ?_ (by assumption) ?_
     rotate_left
     focus (intro w hSw; (try dsimp only at hSw); go_simp; (try with_reducible rfl))
     try simp only [Act.put, List.getElem_toArray, List.getElem_cons_succ, List.getElem_cons_zero, List.setIfInBounds_toArray, List.set_cons_zero, List.set_cons_succ]
     refine regT 11 104 (v := ?_) rfl rfl (by kernel_rfl) (by kernel_rfl) (by kernel_rfl) (fun _ _ _ h => h) (by rfl) ?_ (by assumption) ?_
     rotate_left
     focus (intro w hSw; (try dsimp only at hSw); go_simp; (try with_reducible rfl))
     try simp only [Act.put, List.getElem_toArray, List.getElem_cons_succ, List.getElem_cons_zero, List.setIfInBounds_toArray, List.set_cons_zero, List.set_cons_succ]
     refine regT 12 105 (v := ?_) rfl rfl (by kernel_rfl) (by kernel_rfl) (by kernel_rfl) (fun _ _ _ h => h) (by rfl) ?_ (by assumption) ?_
     rotate_left
     focus (intro w hSw; (try dsimp only at hSw); go_simp; (try with_reducible rfl))
     try simp only [Act.put, List.getElem_toArray, List.getElem_cons_succ, List.getElem_cons_zero, List.setIfInBounds_toArray, List.set_cons_zero, List.set_cons_succ]
     refine wpAnyH_ready (rs := [4, 13]) (by kernel_rfl) (by simp) ?_
     refine AllReadyH.cons rfl (fun K hK => ?_) (AllReadyH.cons rfl (fun K hK => ?_) AllReadyH.nil)
     · go_simp
       refine hK.out _ _ ?_ (fun hHeld => ?_)
       focus ((try dsimp only); (first | with_reducible assumption | with_reducible exact HeldE.start _ _ _ | (refine HeldE.of ?_; with_reducible assumption) | ((repeat (first | with_reducible refine HeldE.set ?_ rfl | with_reducible refine HeldE.alloc ?_ _ | with_reducible refine HeldE.drew ?_)); (first | with_reducible assumption | with_reducible exact HeldE.refl _ _ _ | with_reducible exact HeldE.start _ _ _ | (refine HeldE.of ?_; with_reducible assumption)))))
       clear hK K
       try simp only [Act.put, List.getElem_toArray, List.getElem_cons_succ, List.getElem_cons_zero, List.setIfInBounds_toArray, List.set_cons_zero, List.set_cons_succ]
       refine wpAnyH_ready (rs := [13]) (by kernel_rfl) (by simp) ?_
       refine AllReadyH.cons rfl (fun K hK => ?_) ?_
       rotate_left
       focus exact AllReadyH.nil
       go_simp
       refine hK.out _ _ ?_ (fun hHeld => ?_)
       focus ((try dsimp only); (first | with_reducible assumption | with_reducible exact HeldE.start _ _ _ | (refine HeldE.of ?_; with_reducible assumption) | ((repeat (first | with_reducible refine HeldE.set ?_ rfl | with_reducible refine HeldE.alloc ?_ _ | with_reducible refine HeldE.drew ?_)); (first | with_reducible assumption | with_reducible exact HeldE.refl _ _ _ | with_reducible exact HeldE.start _ _ _ | (refine HeldE.of ?_; with_reducible assumption)))))
       clear hK K
       try simp only [Act.put, List.getElem_toArray, List.getElem_cons_succ, List.getElem_cons_zero, List.setIfInBounds_toArray, List.set_cons_zero, List.set_cons_succ]
       refine wpAnyH_ready (rs := [14]) (by kernel_rfl) (by simp) ?_
       refine AllReadyH.cons rfl (fun K hK => ?_) ?_
       rotate_left
       focus exact AllReadyH.nil
       go_simp
       (go_at_call 224; apply Calls.mono; apply (iInsert_c (lo := lo) (ds := m.deals) (d := ⟨t, ru, rp, 0, 0⟩)); (exact HS.out.ow.deals.ow.keep kf_); exact hj; omega; (first | exact lit1D ⟨t, ru, rp, 0, 0⟩ rfl | exact Rs.keep (lit1D ⟨t, ru, rp, 0, 0⟩ rfl) (kD (kR _ _))); (first | exact Lb.new rfl rfl | exact Lb.drew (Lb.new rfl rfl)); (exact HS.out.ow.deals.ow.apart sz_); (exact sz_); rintro E w5 ⟨A5, c5, rfl, hoD, hch5, hat5⟩; have hbE := HeldE.app hHeld hch5 HGE.out; have hk1 := (hch5.cell (p := ⟨g, o + 2, none⟩) sz_ HSg.out); have hk2 := (hch5.frozen (p := ⟨g, o + 2, none⟩) sz_ HSg.out))
       (try go_wp2_with fail)
       refine hK.out _ _ ?_ (fun hHeld => ?_)
       focus ((try dsimp only); (first | with_reducible assumption | with_reducible exact HeldE.start _ _ _ | (refine HeldE.of ?_; with_reducible assumption) | ((repeat (first | with_reducible refine HeldE.set ?_ rfl | with_reducible refine HeldE.alloc ?_ _ | with_reducible refine HeldE.drew ?_)); (first | with_reducible assumption | with_reducible exact HeldE.refl _ _ _ | with_reducible exact HeldE.start _ _ _ | (refine HeldE.of ?_; with_reducible assumption)))))
       clear hK K
       try simp only [Act.put, List.getElem_toArray, List.getElem_cons_succ, List.getElem_cons_zero, List.setIfInBounds_toArray, List.set_cons_zero, List.set_cons_succ]
       refine regT 15 108 (v := ?_) rfl rfl (by kernel_rfl) (by kernel_rfl) (by kernel_rfl) (fun _ _ _ h => h) (by rfl) ?_ (by assumption) ?_
       rotate_left
       focus (intro w hSw; (try dsimp only at hSw); go_simp; (try with_reducible rfl))
       try simp only [Act.put, List.getElem_toArray, List.getElem_cons_succ, List.getElem_cons_zero, List.setIfInBounds_toArray, List.set_cons_zero, List.set_cons_succ]
       refine regT 16 109 (v := ?_) rfl rfl (by kernel_rfl) (by kernel_rfl) (by kernel_rfl) (fun _ _ _ h => h) (by rfl) ?_ (by assumption) ?_
       rotate_left
       focus (intro w hSw; (try dsimp only at hSw); go_simp; (try with_reducible rfl))
       try simp only [Act.put, List.getElem_toArray, List.getElem_cons_succ, List.getElem_cons_zero, List.setIfInBounds_toArray, List.set_cons_zero, List.set_cons_succ]
       refine wpAnyH_ready (rs := [17]) (by kernel_rfl) (by simp) ?_
       refine AllReadyH.cons rfl (fun K hK => ?_) ?_
       rotate_left
       focus exact AllReadyH.nil
       go_simp
       refine hK.out _ _ ?_ (fun hHeld => ?_)
       focus ((try dsimp only); (first | with_reducible assumption | with_reducible exact HeldE.start _ _ _ | (refine HeldE.of ?_; with_reducible assumption) | ((repeat (first | with_reducible refine HeldE.set ?_ rfl | with_reducible refine HeldE.alloc ?_ _ | with_reducible refine HeldE.drew ?_)); (first | with_reducible assumption | with_reducible exact HeldE.refl _ _ _ | with_reducible exact HeldE.start _ _ _ | (refine HeldE.of ?_; with_reducible assumption)))))
       clear hK K
       try simp only [Act.put, List.getElem_toArray, List.getElem_cons_succ, List.getElem_cons_zero, List.setIfInBounds_toArray, List.set_cons_zero, List.set_cons_succ]
       refine wpAnyH_done (by kernel_rfl) ?_ _
       rw [HI.out] at hoD
       clear hk1 hk2
       go_wp2
       go_ret
       rw [He.out]
       exact ⟨_, _, _, _, _, _, _, _, _, _, _, _, _, _, _, _, rfl, MS.deals (HS.out.ex ext_) hoD hch5 hat5⟩
     · go_simp
       refine hK.out _ _ ?_ (fun hHeld => ?_)
       focus ((try dsimp only); (first | with_reducible assumption | with_reducible exact HeldE.start _ _ _ | (refine HeldE.of ?_; with_reducible assumption) | ((repeat (first | with_reducible refine HeldE.set ?_ rfl | with_reducible refine HeldE.alloc ?_ _ | with_reducible refine HeldE.drew ?_)); (first | with_reducible assumption | with_reducible exact HeldE.refl _ _ _ | with_reducible exact HeldE.start _ _ _ | (refine HeldE.of ?_; with_reducible assumption)))))
       clear hK K
       try simp only [Act.put, List.getElem_toArray, List.getElem_cons_succ, List.getElem_cons_zero, List.setIfInBounds_toArray, List.set_cons_zero, List.set_cons_succ]
       refine wpAnyH_ready (rs := [4]) (by kernel_rfl) (by simp) ?_
       refine AllReadyH.cons rfl (fun K hK => ?_) ?_
       rotate_left
       focus exact AllReadyH.nil
       go_simp
       refine hK.out _ _ ?_ (fun hHeld => ?_)
       focus ((try dsimp only); (first | with_reducible assumption | with_reducible exact HeldE.start _ _ _ | (refine HeldE.of ?_; with_reducible assumption) | ((repeat (first | with_reducible refine HeldE.set ?_ rfl | with_reducible refine HeldE.alloc ?_ _ | with_reducible refine HeldE.drew ?_)); (first | with_reducible assumption | with_reducible exact HeldE.refl _ _ _ | with_reducible exact HeldE.start _ _ _ | (refine HeldE.of ?_; with_reducible assumption)))))
       clear hK K
       try simp only [Act.put, List.getElem_toArray, List.getElem_cons_succ, List.getElem_cons_zero, List.setIfInBounds_toArray, List.set_cons_zero, List.set_cons_succ]
       refine wpAnyH_ready (rs := [14]) (by kernel_rfl) (by simp) ?_
       refine AllReadyH.cons rfl (fun K hK => ?_) ?_
       rotate_left
       focus exact AllReadyH.nil
       go_simp
       (go_at_call 224; apply Calls.mono; apply (iInsert_c (lo := lo) (ds := m.deals) (d := ⟨t, ru, rp, 0, 0⟩)); (exact HS.out.ow.deals.ow.keep kf_); exact hj; omega; (first | exact lit1D ⟨t, ru, rp, 0, 0⟩ rfl | exact Rs.keep (lit1D ⟨t, ru, rp, 0, 0⟩ rfl) (kD (kR _ _))); (first | exact Lb.new rfl rfl | exact Lb.drew (Lb.new rfl rfl)); (exact HS.out.ow.deals.ow.apart sz_); (exact sz_); rintro E w5 ⟨A5, c5, rfl, hoD, hch5, hat5⟩; have hbE := HeldE.app hHeld hch5 HGE.out; have hk1 := (hch5.cell (p := ⟨g, o + 2, none⟩) sz_ HSg.out); have hk2 := (hch5.frozen (p := ⟨g, o + 2, none⟩) sz_ HSg.out))
       (try go_wp2_with fail)
       refine hK.out _ _ ?_ (fun hHeld => ?_)
       focus ((try dsimp only); (first | with_reducible assumption | with_reducible exact HeldE.start _ _ _ | (refine HeldE.of ?_; with_reducible assumption) | ((repeat (first | with_reducible refine HeldE.set ?_ rfl | with_reducible refine HeldE.alloc ?_ _ | with_reducible refine HeldE.drew ?_)); (first | with_reducible assumption | with_reducible exact HeldE.refl _ _ _ | with_reducible exact HeldE.start _ _ _ | (refine HeldE.of ?_; with_reducible assumption)))))
       clear hK K
       try simp only [Act.put, List.getElem_toArray, List.getElem_cons_succ, List.getElem_cons_zero, List.setIfInBounds_toArray, List.set_cons_zero, List.set_cons_succ]
       refine regT 15 108 (v := ?_) rfl rfl (by kernel_rfl) (by kernel_rfl) (by kernel_rfl) (fun _ _ _ h => h) (by rfl) ?_ (by assumption) ?_
       rotate_left
       focus (intro w hSw; (try dsimp only at hSw); go_simp; (try with_reducible rfl))
       try simp only [Act.put, List.getElem_toArray, List.getElem_cons_succ, List.getElem_cons_zero, List.setIfInBounds_toArray, List.set_cons_zero, List.set_cons_succ]
       refine regT 16 109 (v := ?_) rfl rfl (by kernel_rfl) (by kernel_rfl) (by kernel_rfl) (fun _ _ _ h => h) (by rfl) ?_ (by assumption) ?_
       rotate_left
       focus (intro w hSw; (try dsimp only at hSw); go_simp; (try with_reducible rfl))
       try simp only [Act.put, List.getElem_toArray, List.getElem_cons_succ, List.getElem_cons_zero, List.setIfInBounds_toArray, List.set_cons_zero, List.set_cons_succ]
       refine wpAnyH_ready (rs := [17]) (by kernel_rfl) (by simp) ?_
       refine AllReadyH.cons rfl (fun K hK => ?_) ?_
       rotate_left
       focus exact AllReadyH.nil
       go_simp
       refine hK.out _ _ ?_ (fun hHeld => ?_)
       focus ((try dsimp only); (first | with_reducible assumption | with_reducible exact HeldE.start _ _ _ | (refine HeldE.of ?_; with_reducible assumption) | ((repeat (first | with_reducible refine HeldE.set ?_ rfl | with_reducible refine HeldE.alloc ?_ _ | with_reducible refine HeldE.drew ?_)); (first | with_reducible assumption | with_reducible exact HeldE.refl _ _ _ | with_reducible exact HeldE.start _ _ _ | (refine HeldE.of ?_; with_reducible assumption)))))
       clear hK K
       try simp only [Act.put, List.getElem_toArray, List.getElem_cons_succ, List.getElem_cons_zero, List.setIfInBounds_toArray, List.set_cons_zero, List.set_cons_succ]
       refine wpAnyH_done (by kernel_rfl) ?_ _
       rw [HI.out] at hoD
       clear hk1 hk2
       go_wp2
       go_ret
       rw [He.out]
       exact ⟨_, _, _, _, _, _, _, _, _, _, _, _, _, _, _, _, rfl, MS.deals (HS.out.ex ext_) hoD hch5 hat5⟩
end
end Go.Proofs.YtnnoiagommiapaaGreat

/- Texts joined: Mkt3, WldNew. -/
import Derived.Test.YtnnoiagommiapaaGreatPy12
import Derived.Test.YtnnoiagommiapaaGreatPy18
import Derived.Test.YtnnoiagommiapaaGreatPy20
import Derived.Test.YtnnoiagommiapaaGreatPy19
import Derived.Test.YtnnoiagommiapaaGreatPy9
set_option maxRecDepth 100000
set_option linter.unusedSimpArgs false
set_option linter.unusedVariables false
namespace Go.Proofs.YtnnoiagommiapaaGreat
open Go.RowKit Go
set_option maxHeartbeats 1000000
section
variable {τ : Nat → Nat} {t lo : Nat} {a w w' : World}
theorem tR (τ : Nat → Nat) (t lo : Nat) (w : World) : KT τ t lo w w := KT.refl τ t lo w
theorem tA {o : Obj} (h : KT τ t lo a w) : KT τ t lo a (w.alloc o) := h.alloc
theorem tD (h : KT τ t lo a w) : KT τ t lo a w.drew := h.drew
theorem tN {n : Nat} (h : KT τ t lo a w) : KT τ t lo a (w.drewN n) := h.drewN
theorem tS {p : Addr} {u : Value} (h : KT τ t lo a w) (hp : a.heap.size ≤ p.block ∨ τ p.block ≠ t) : KT τ t lo a (w.setCell p u) := h.setCell hp
theorem tE (hb : Ex w w') (h : KT τ t lo a w) : KT τ t lo a w' := h.ex hb
end
def SM (lo : Nat) (τ : Nat → Nat) : Nat → Prop := fun k => lo ≤ k ∧ 1 ≤ τ k ∧ τ k ≤ 5
structure MktAt (w : World) (g o : Nat) (aL : Option Addr) (aLc aLn : Nat) (aP : Option Addr) (aPc aPn : Nat) (aD : Option Addr) (aDc aDn : Nat) (aN : Option Addr) (aNc aNn : Nat) (aS : Option Addr) (aSc aSn : Nat) (clock : Int) : Prop where
 lt : g < w.heap.size
 log : w.cell? ⟨g, o, none⟩ = some (.slice aL aLn aLc)
 purses : w.cell? ⟨g, o + 1, none⟩ = some (.slice aP aPn aPc)
 deals : w.cell? ⟨g, o + 2, none⟩ = some (.slice aD aDn aDc)
 clk : w.cell? ⟨g, o + 3, none⟩ = some (.int .i64 clock)
 nums : w.cell? ⟨g, o + 4, none⟩ = some (.slice aN aNn aNc)
 said : w.cell? ⟨g, o + 5, none⟩ = some (.slice aS aSn aSc)
 free : ∀ i, w.frozen? ⟨g, i, none⟩ = false
theorem MktAt.keep {w w' : World} {g o : Nat} {aL : Option Addr} {aLc aLn : Nat} {aP : Option Addr} {aPc aPn : Nat} {aD : Option Addr} {aDc aDn : Nat} {aN : Option Addr} {aNc aNn : Nat} {aS : Option Addr} {aSc aSn : Nat} {clock : Int} (h : MktAt w g o aL aLc aLn aP aPc aPn aD aDc aDn aN aNc aNn aS aSc aSn clock) (hk : KF 0 w w') : MktAt w' g o aL aLc aLn aP aPc aPn aD aDc aDn aN aNc aNn aS aSc aSn clock := by
 have hb := hk.block g (Nat.zero_le _) h.lt
 have hc : ∀ i, w'.cell? ⟨g, i, none⟩ = w.cell? ⟨g, i, none⟩ := fun i => World.cell?_of_block (w := w) (a := ⟨g, i, none⟩) hb
 exact ⟨Nat.lt_of_lt_of_le h.lt hk.size, (hc _).trans h.log, (hc _).trans h.purses, (hc _).trans h.deals, (hc _).trans h.clk, (hc _).trans h.nums, (hc _).trans h.said, fun i => (World.frozen?_of_block (w := w) (a := ⟨g, i, none⟩) hb).trans (h.free i)⟩
theorem MktAt.setP {w : World} {g o : Nat} {aL : Option Addr} {aLc aLn : Nat} {aP : Option Addr} {aPc aPn : Nat} {aD : Option Addr} {aDc aDn : Nat} {aN : Option Addr} {aNc aNn : Nat} {aS : Option Addr} {aSc aSn : Nat} {clock : Int} (h : MktAt w g o aL aLc aLn aP aPc aPn aD aDc aDn aN aNc aNn aS aSc aSn clock) (B : Option Addr) (n d : Nat) : MktAt (w.setCell ⟨g, o + 1, none⟩ (.slice B n d)) g o aL aLc aLn B d n aD aDc aDn aN aNc aNn aS aSc aSn clock := by
 have ne : ∀ i j : Nat, i ≠ j → (⟨g, i, none⟩ : Addr) ≠ ⟨g, j, none⟩ := fun i j hij e => hij (by injection e)
 exact ⟨by simpa [World.setCell] using h.lt, (World.cell?_setCell_other _ _ _ _ (ne _ _ (by omega))).trans h.log, World.cell?_setCell_same _ _ _ h.purses, (World.cell?_setCell_other _ _ _ _ (ne _ _ (by omega))).trans h.deals, (World.cell?_setCell_other _ _ _ _ (ne _ _ (by omega))).trans h.clk,
   (World.cell?_setCell_other _ _ _ _ (ne _ _ (by omega))).trans h.nums, (World.cell?_setCell_other _ _ _ _ (ne _ _ (by omega))).trans h.said, fun i => by simpa using h.free i⟩
theorem MktAt.other {w : World} {g o : Nat} {aL : Option Addr} {aLc aLn : Nat} {aP : Option Addr} {aPc aPn : Nat} {aD : Option Addr} {aDc aDn : Nat} {aN : Option Addr} {aNc aNn : Nat} {aS : Option Addr} {aSc aSn : Nat} {clock : Int} (h : MktAt w g o aL aLc aLn aP aPc aPn aD aDc aDn aN aNc aNn aS aSc aSn clock) {p : Addr} (v : Value) (hp : p.block ≠ g) : MktAt (w.setCell p v) g o aL aLc aLn aP aPc aPn aD aDc aDn aN aNc aNn aS aSc aSn clock := by
 have ne : ∀ i : Nat, p ≠ ⟨g, i, none⟩ := fun i e => hp (by rw [e])
 exact ⟨by simpa [World.setCell] using h.lt, (World.cell?_setCell_other _ _ _ _ (ne _)).trans h.log, (World.cell?_setCell_other _ _ _ _ (ne _)).trans h.purses, (World.cell?_setCell_other _ _ _ _ (ne _)).trans h.deals, (World.cell?_setCell_other _ _ _ _ (ne _)).trans h.clk,
   (World.cell?_setCell_other _ _ _ _ (ne _)).trans h.nums, (World.cell?_setCell_other _ _ _ _ (ne _)).trans h.said, fun i => by simpa using h.free i⟩
theorem MktAt.drew {w : World} {g o : Nat} {aL : Option Addr} {aLc aLn : Nat} {aP : Option Addr} {aPc aPn : Nat} {aD : Option Addr} {aDc aDn : Nat} {aN : Option Addr} {aNc aNn : Nat} {aS : Option Addr} {aSc aSn : Nat} {clock : Int} (h : MktAt w g o aL aLc aLn aP aPc aPn aD aDc aDn aN aNc aNn aS aSc aSn clock) : MktAt w.drew g o aL aLc aLn aP aPc aPn aD aDc aDn aN aNc aNn aS aSc aSn clock := ⟨h.1, h.2, h.3, h.4, h.5, h.6, h.7, h.8⟩
theorem OD_set3 {w : World} {lo c n k g : Nat} {A : Option Addr} {xs : List Sw.Deal} (h : OwD w lo A c n xs) (hA : A = some ⟨g, 0, none⟩) {x : Sw.Deal} (hx : xs[k]? = some x) (v : Int) :
   OwD (w.setCell ⟨g, k * 5 + 3, none⟩ (.int .i64 v)) lo A c n (xs.set k { x with buyer := v }) := by
 obtain ⟨a, b, c', d, e⟩ := x
 exact Ow.set h (fun _ => rfl) (j := 3) (u := .int .i64 v) hA hx (by omega) (y := ⟨a, b, c', v, e⟩) rfl
theorem OD_set4 {w : World} {lo c n k g : Nat} {A : Option Addr} {xs : List Sw.Deal} (h : OwD w lo A c n xs) (hA : A = some ⟨g, 0, none⟩) {x : Sw.Deal} (hx : xs[k]? = some x) (v : Int) :
   OwD (w.setCell ⟨g, k * 5 + 4, none⟩ (.int .i64 v)) lo A c n (xs.set k { x with due := v }) := by
 obtain ⟨a, b, c', d, e⟩ := x
 exact Ow.set h (fun _ => rfl) (j := 4) (u := .int .i64 v) hA hx (by omega) (y := ⟨a, b, c', d, v⟩) rfl
def backs (clock : Int) (ds : List Sw.Deal) (k : Nat) : List Sw.Deal := (ds.take k).map (Sw.backDeal clock) ++ ds.drop k
theorem backs_at {clock : Int} {ds : List Sw.Deal} {k : Nat} {y : Sw.Deal} (h : ds[k]? = some y) : (backs clock ds k)[k]? = some y := by
 have hk := (List.getElem?_eq_some_iff.1 h).1
 unfold backs
 rw [List.getElem?_append_right (by simp; omega), List.length_map, List.length_take, Nat.min_eq_left (by omega), Nat.sub_self, List.getElem?_drop]
 exact h
theorem backs_step {clock : Int} {ds : List Sw.Deal} {k : Nat} {y : Sw.Deal} (h : ds[k]? = some y) : (backs clock ds k).set k (Sw.backDeal clock y) = backs clock ds (k + 1) := by
 have hk := (List.getElem?_eq_some_iff.1 h).1
 unfold backs
 rw [List.set_append_right _ _ (by simp; omega), List.length_map, List.length_take, Nat.min_eq_left (by omega), Nat.sub_self, List.take_add_one, h]
 simp only [List.map_append, List.map_cons, List.append_assoc, Option.toList_some, List.map_nil, List.cons_append, List.nil_append]
 rw [List.drop_eq_getElem_cons hk]
 rfl
theorem set_atM {α : Type} {xs : List α} {k : Nat} {x y : α} (h : xs[k]? = some x) : (xs.set k y)[k]? = some y := by
 rw [List.getElem?_set, if_pos rfl, if_pos (List.getElem?_eq_some_iff.1 h).1]
theorem backs_same {clock : Int} {ds : List Sw.Deal} {k : Nat} {y : Sw.Deal} (h : ds[k]? = some y) (hb : Sw.backDeal clock y = y) : backs clock ds (k + 1) = backs clock ds k := by
 rw [← backs_step h, hb]
 have h1 := backs_at (clock := clock) h
 apply List.ext_getElem?
 intro i
 rw [List.getElem?_set]
 split
 · rename_i e
   subst e
   rw [h1, if_pos (List.getElem?_eq_some_iff.1 h1).1]
 · rfl
theorem backs_all {clock : Int} {ds : List Sw.Deal} {k : Nat} (h : ds.length ≤ k) : backs clock ds k = ds.map (Sw.backDeal clock) := by
 unfold backs
 rw [List.take_of_length_le h, List.drop_of_length_le h, List.append_nil]
def pursesTo (clock : Int) (m : Sw.Mkt) (k : Nat) : List Int := (m.deals.take k).foldl (Sw.backPurse clock) m.purses
theorem pursesTo_step {clock : Int} {m : Sw.Mkt} {k : Nat} {y : Sw.Deal} (h : m.deals[k]? = some y) : pursesTo clock m (k + 1) = Sw.backPurse clock (pursesTo clock m k) y := by
 unfold pursesTo
 rw [List.take_add_one, h]
 simp
theorem OwM.backed {τ : Nat → Nat} {wr w1 w2 : World} {lo g0 o gD k A3c : Nat} {A3 : Option Addr} {aL aP aN aS : Option Addr} {aLc aLn aPc aPn aDc aDn aNc aNn aSc aSn : Nat} {m : Sw.Mkt} {ps : List Int} {y : Sw.Deal} {v : Value}
   (h : OwM τ wr lo aL aLc aLn aP aPc aPn (some ⟨gD, 0, none⟩) aDc aDn aN aNc aNn aS aSc aSn m) (hb : Ex wr w1) (hb2 : Ex (w1.setCell ⟨g0, o, none⟩ v) w2) (ho : OwI w1 wr.heap.size A3 A3c aPn ps) (t0 : τ g0 = 0) (hg0 : g0 < wr.heap.size) (hx : m.deals[k]? = some y) (hlo : lo ≤ wr.heap.size) :
   OwM (glue τ wr.heap.size (fun _ => 2)) ((w2.setCell ⟨gD, k * 5 + 3, none⟩ (.int .i64 0)).setCell ⟨gD, k * 5 + 4, none⟩ (.int .i64 0)) lo aL aLc aLn A3 A3c aPn (some ⟨gD, 0, none⟩) aDc aDn aN aNc aNn aS aSc aSn
     ⟨m.log, ps, m.deals.set k { y with buyer := 0, due := 0 }, m.clock, m.nums, m.said⟩ := by
 have hgD := h.deals.ow.blk rfl
 dsimp only at hgD
 have tD : τ gD = 3 := h.deals.tag _ rfl
 have tD' : glue τ wr.heap.size (fun _ => 2) gD = 3 := by unfold glue; rw [if_pos hgD.2]; exact tD
 have t0' : glue τ wr.heap.size (fun _ => 2) g0 = 0 := by unfold glue; rw [if_pos hg0]; exact t0
 have hne : g0 ≠ gD := by rintro rfl; omega
 have hz1 := hb.size
 have hz2 : w1.heap.size ≤ w2.heap.size := by have := hb2.size; simpa [World.setCell] using this
 have K : ∀ t, t ≠ 0 → t ≠ 3 → KT (glue τ wr.heap.size (fun _ => 2)) t lo wr ((w2.setCell ⟨gD, k * 5 + 3, none⟩ (.int .i64 0)).setCell ⟨gD, k * 5 + 4, none⟩ (.int .i64 0)) := by
   intro t h0 h3
   refine ((KT.ex hb2 ((KT.ex hb (KT.refl _ _ _ _)).setCell ?_)).setCell ?_).setCell ?_
   · exact Or.inr (by rw [t0']; exact Ne.symm h0)
   · exact Or.inr (by rw [tD']; exact Ne.symm h3)
   · exact Or.inr (by rw [tD']; exact Ne.symm h3)
 have k2 : ∀ b, b < w1.heap.size → b ≠ g0 → w2.heap[b]? = w1.heap[b]? := fun b hb1 hb0 =>
   (hb2.block b (by simpa [World.setCell] using hb1) (fun h => h)).trans (Below.heap_setCell _ _ _ _ hb0)
 refine ⟨(h.log.glueL (Nat.le_refl _)).keep (K 1 (by omega) (by omega)), ⟨?_, fun a ha => ?_⟩, ⟨?_, fun a ha => ?_⟩, (h.nums.glueL (Nat.le_refl _)).keep (K 4 (by omega) (by omega)), (h.said.glueL (Nat.le_refl _)).keep (K 5 (by omega) (by omega))⟩
 · refine (ho.less hlo).keep_ fun a ha => ?_
   have := ho.blk ha
   rw [Below.heap_setCell _ _ _ _ (show a.block ≠ gD by omega), Below.heap_setCell _ _ _ _ (show a.block ≠ gD by omega)]
   exact k2 _ this.2 (by omega)
 · have := (ho.blk ha).1
   unfold glue; rw [if_neg (by omega)]
 · have h1 : OwD w2 lo (some ⟨gD, 0, none⟩) aDc aDn m.deals := h.deals.ow.keep_ fun a ha => by
     cases ha
     exact (k2 gD (by omega) (Ne.symm hne)).trans (hb.block gD hgD.2 (fun h => h))
   have h2 := OD_set4 (OD_set3 h1 rfl hx 0) rfl (set_atM hx) 0
   rw [List.set_set] at h2
   exact h2
 · cases ha
   exact tD'
theorem OwM.clocked {τ : Nat → Nat} {w : World} {lo : Nat} {aL : Option Addr} {aLc aLn : Nat} {aP : Option Addr} {aPc aPn : Nat} {aD : Option Addr} {aDc aDn : Nat} {aN : Option Addr} {aNc aNn : Nat} {aS : Option Addr} {aSc aSn : Nat} {m : Sw.Mkt} (h : OwM τ w lo aL aLc aLn aP aPc aPn aD aDc aDn aN aNc aNn aS aSc aSn m) (t : Int) : OwM τ w lo aL aLc aLn aP aPc aPn aD aDc aDn aN aNc aNn aS aSc aSn { m with clock := t } := ⟨h.1, h.2, h.3, h.4, h.5⟩
theorem back_y {clock : Int} {y : Sw.Deal} (h1 : 0 < y.buyer) (h2 : y.due < clock) : Sw.backDeal clock y = { y with buyer := 0, due := 0 } := by simp [Sw.backDeal, Sw.held, h1, h2]
theorem back_n {clock : Int} {y : Sw.Deal} (h : ¬ (0 < y.buyer ∧ y.due < clock)) : Sw.backDeal clock y = y := by
 have : (Sw.held y && decide (y.due < clock)) = false := by
   rw [Sw.held, ← Bool.decide_and, decide_eq_false_iff_not]; exact h
 simp [Sw.backDeal, this]
theorem backp_y {clock : Int} {p : List Int} {y : Sw.Deal} (h1 : 0 < y.buyer) (h2 : y.due < clock) : Sw.backPurse clock p y = Sw.monTurn p y.buyer y.price := by simp [Sw.backPurse, Sw.held, h1, h2]
theorem backp_n {clock : Int} {p : List Int} {y : Sw.Deal} (h : ¬ (0 < y.buyer ∧ y.due < clock)) : Sw.backPurse clock p y = p := by
 have : (Sw.held y && decide (y.due < clock)) = false := by
   rw [Sw.held, ← Bool.decide_and, decide_eq_false_iff_not]; exact h
 simp [Sw.backPurse, this]
def ticked (m : Sw.Mkt) (k : Nat) : Sw.Mkt := ⟨m.log, pursesTo (m.clock + 1) m k, backs (m.clock + 1) m.deals k, m.clock + 1, m.nums, m.said⟩
theorem ticked_all {m : Sw.Mkt} {k : Nat} (h : m.deals.length ≤ k) : ticked m k = Sw.tick m := by
 unfold ticked Sw.tick
 rw [backs_all h]
 unfold pursesTo
 rw [List.take_of_length_le h]
theorem sTick_c (aL : Option Addr) (aLc aLn : Nat) (aP : Option Addr) (aPc aPn : Nat) (aD : Option Addr) (aDc aDn : Nat) (aN : Option Addr) (aNc aNn : Nat) (aS : Option Addr) (aSc aSn : Nat) (m : Sw.Mkt) (lo : Nat) (τ : Nat → Nat) (w : World) (hM : OwM τ w lo aL aLc aLn aP aPc aPn aD aDc aDn aN aNc aNn aS aSc aSn m) (hck0 : 0 ≤ m.clock) (hck1 : m.clock ≤ 99999) (hn : aDn ≤ 4194304) (hp : aPn ≤ 4194304) (hlo : lo ≤ w.heap.size) : Calls Tryz.prog 185 #[.agg #[.slice aL aLn aLc, .slice aP aPn aPc, .slice aD aDn aDc, .int .i64 m.clock, .slice aN aNn aNc, .slice aS aSn aSc]] w fun E w' => ∃ A c, ∃ τ' : Nat → Nat, E = .returned (.agg #[.slice aL aLn aLc, .slice A aPn c, .slice aD aDn aDc, .int .i64 (m.clock + 1), .slice aN aNn aNc, .slice aS aSn aSc]) ∧ OwM τ' w' lo aL aLc aLn A c aPn aD aDc aDn aN aNc aNn aS aSc aSn (Sw.tick m) ∧ (∀ b, b < w.heap.size → τ' b = τ b) ∧ Ch (SM lo τ) w w' := by
 have l3 := Lib.hid hM.deals.ow.1
 go_enter Tryz.func185, Tryz.ntmps185
 go_wp2_with fail
 go_loopw [3] (fun i wr => ∃ (k : Nat) (B : Option Addr) (d : Nat) (τr : Nat → Nat), k ≤ aDn ∧ i = .int .i64 k ∧ Ch (SM lo τ) w wr ∧ (∀ b, b < w.heap.size → τr b = τ b) ∧ τr w.heap.size = 0 ∧ τr (w.heap.size + 1) = 0 ∧
   MktAt wr w.heap.size 0 aL aLc aLn B d aPn aD aDc aDn aN aNc aNn aS aSc aSn (m.clock + 1) ∧ w.heap.size + 2 ≤ wr.heap.size ∧ Lb wr (w.heap.size + 1) 6 ∧
   OwM τr wr lo aL aLc aLn B d aPn aD aDc aDn aN aNc aNn aS aSc aSn (ticked m k)) (fun i _ => aDn - (intOf i).toNat)
 case atStart =>
   have g0 : glue τ w.heap.size (fun _ => 0) w.heap.size = 0 := by unfold glue; rw [if_neg (by omega)]
   refine ⟨0, aP, aPc, glue τ w.heap.size (fun _ => 0), Nat.zero_le _, rfl, (by (exact ext_)), fun b hb => if_pos hb, g0, (by unfold glue; rw [if_neg (by omega)]), ⟨by simp; omega, ?_, ?_, ?_, ?_, ?_, ?_, ?_⟩, by simp, (by exact lbc_), ?_⟩
   case refine_8 =>
     refine OwM.keep (OwM.glueL (m := ticked m 0) (OwM.clocked hM _) (Nat.le_refl _)) fun t h1 h5 => ?_
     have g0' : glue τ w.heap.size (fun _ => 0) w.heap.size ≠ t := by rw [g0]; omega
     (with_reducible repeat (first | exact tR _ _ _ _ | apply tA | apply tD | apply tN | (apply tE; assumption) | (refine tS ?_ (by first | exact Or.inl (by first | omega | (simp only [zq_]; omega)) | exact Or.inr (by rw [g0]; decide) | exact Or.inr g0))))
   all_goals first | (simp [go_sem]; done) | (intro i; simp [go_sem]; done)
 case round =>
   obtain ⟨k, B, d, τr, hk, rfl, hb2, hτ, h0, h01, hmk, hsz, hLr, ho⟩ := hrel
   obtain ⟨k0, k1, k2, k3, k4, k5, k6, kf⟩ := hmk
   have hmk : MktAt wr w.heap.size 0 aL aLc aLn B d aPn aD aDc aDn aN aNc aNn aS aSc aSn (m.clock + 1) := ⟨k0, k1, k2, k3, k4, k5, k6, kf⟩
   simp only [Nat.zero_add] at k1 k2 k3 k4 k5 k6
   have Hτ := Lib.hid hτ
   clear hτ
   by_cases hlt : k < aDn
   · obtain ⟨y, hy⟩ : ∃ y, m.deals[k]? = some y := ⟨_, List.getElem?_eq_getElem (by have := l3.out; omega)⟩
     have hyb := backs_at (clock := m.clock + 1) hy
     obtain ⟨gD, x, hA, hloD, hltD, hx, q0, q1, q2, q3, q4, hfz⟩ := at_OD ho.deals.ow hlt
     obtain rfl : x = y := by rw [show (ticked m k).deals = backs (m.clock + 1) m.deals k from rfl, hyb] at hx; exact (Option.some.inj hx).symm
     subst hA
     have HX := Lib.hid hx
     have HY := Lib.hid hy
     clear hx hy hyb
     by_cases hh : 0 < x.buyer ∧ x.due < m.clock + 1
     case neg =>
       have e : ticked m (k + 1) = ticked m k := by
         unfold ticked
         rw [pursesTo_step HY.out, backp_n hh, backs_same HY.out (back_n hh)]
       have He := Lib.hid e; clear e
       by_cases hb1 : 0 < x.buyer
       · have hdu : ¬ x.due < m.clock + 1 := fun h => hh ⟨hb1, h⟩
         clear hh
         go_wp2_with fail
         go_roundw
         case rel =>
           exact ⟨k + 1, B, d, τr, by omega, by go_num, (by (exact ext_)), Hτ.out, h0, h01, hmk.keep (by (exact kf_)), by exact sz_, (by exact lbc_), by rw [He.out]; exact ho.keepF (by (exact kf_))⟩
         case measure => simp [intOf]; omega
       · clear hh
         go_wp2_with fail
         go_roundw
         case rel =>
           exact ⟨k + 1, B, d, τr, by omega, by go_num, (by (exact ext_)), Hτ.out, h0, h01, hmk.keep (by (exact kf_)), by exact sz_, (by exact lbc_), by rw [He.out]; exact ho.keepF (by (exact kf_))⟩
         case measure => simp [intOf]; omega
     case pos =>
       obtain ⟨hb1, hdu⟩ := hh
       go_wp2_with (go_at_call 229; apply Calls.mono; apply sMonTurn_c; (apply Rs.at0 ho.purses.rs; (exact kf_)); omega; rintro E w3 ⟨A3, c3, rfl, ho3, hb⟩; obtain ⟨hc, hf, hz⟩ := xy hb)
       have e : ticked m (k + 1) = ⟨m.log, Sw.monTurn (ticked m k).purses x.buyer x.price, (ticked m k).deals.set k { x with buyer := 0, due := 0 }, m.clock + 1, m.nums, m.said⟩ := by
         unfold ticked
         dsimp only
         rw [pursesTo_step HY.out, backp_y hb1 hdu, ← backs_step HY.out, back_y hb1 hdu]
       have He := Lib.hid e; clear e
       have tD : τr gD = 3 := ho.deals.tag _ rfl
       have hne : gD ≠ w.heap.size := by rintro rfl; rw [h0] at tD; cases tD
       have hgS : SM lo τ gD ∨ w.heap.size ≤ gD := by
         by_cases hg : gD < w.heap.size
         · exact .inl ⟨hloD, by rw [← Hτ.out gD hg, tD]; omega, by rw [← Hτ.out gD hg, tD]; omega⟩
         · exact .inr (by omega)
       have hex : Ex wr w3 := ext_
       go_roundw
       case rel =>
         refine ⟨k + 1, A3, c3, glue τr wr.heap.size (fun _ => 2), by omega, by go_num, (by (with_reducible repeat (first | exact cR _ _ | apply cA | apply cD | apply cN | (refine cS ?_ (Or.inr (by first | omega | (simp only [zq_]; omega))) _) | (refine cS ?_ hgS _) | (apply cE; assumption) | (apply cK; assumption)))), fun b hb => (if_pos (by omega)).trans (Hτ.out b hb), (if_pos k0).trans h0, (if_pos (by omega)).trans h01, ?_, by exact sz_, (by exact lbc_), ?_⟩
         · exact (((hmk.keep (by (exact kf_))).setP A3 aPn c3).other _ hne).other _ hne
         · rw [He.out]
           exact OwM.backed ho hex (Ch.refl _ _) (ho3.less (by simp)) h0 k0 (backs_at HY.out) (by omega)
       case measure => simp [intOf]; omega
   · obtain ⟨hcr, hfr⟩ := Lb.rules hLr
     go_wp2_with fail
     refine bodyPost_ret (v := .agg #[.slice aL aLn aLc, .slice B aPn d, .slice aD aDn aDc, .int .i64 (m.clock + 1), .slice aN aNn aNc, .slice aS aSn aSc]) (by simp [results, Tryz.results185, go_sem, *]) rfl ?_
     obtain rfl : k = aDn := by omega
     refine ⟨B, d, τr, rfl, ?_, Hτ.out, (by (exact ext_))⟩
     rw [← ticked_all (Nat.le_of_eq l3.out.symm)]
     refine ho.keep fun t t1 t5 => ?_
     have hnt : τr (w.heap.size + 1) ≠ t := by rw [h01]; omega
     (with_reducible repeat (first | exact tR _ _ _ _ | apply tA | apply tD | apply tN | (apply tE; assumption) | (refine tS ?_ (by first | exact Or.inl (by first | omega | (simp only [zq_]; omega)) | exact Or.inr (by rw [hnt]; decide) | exact Or.inr hnt))))
end Go.Proofs.YtnnoiagommiapaaGreat
namespace Go.Proofs.YtnnoiagommiapaaGreat
open Go.RowKit Go
set_option maxHeartbeats 1000000
theorem OwM.zero {w : World} {lo : Nat} {τ : Nat → Nat} : OwM τ w lo none 0 0 none 0 0 none 0 0 none 0 0 none 0 0 Sw.mktZ := ⟨OwT.nil .., OwT.nil .., OwT.nil .., OwT.nil .., OwT.nil ..⟩
structure NewS (A : Option Addr) (c : Nat) (xs : List Int) (w W0 : World) (n : Nat) (l : Array Bool) (a : Act) (wx : World) : Prop where
 keep : KF 0 w wx
 held : HeldB (w.heap.size) 6 W0 wx
 up : W0.heap.size ≤ wx.heap.size
 st : ∃ (l0 r0 r1 r2 : Bool) (v0 u0 u1 u2 : Value) (τ : Nat → Nat), n = cb l0 + cb r0 + cb r1 + cb r2 ∧ l = #[l0, true, r0, r1, r2, false, false] ∧ a = ⟨#[.slice A 5 c, undef, .pointer (some ⟨w.heap.size, 0, none⟩), .slice A 5 c, .bool true, .bool false, .bool false, .slice A 5 c, .int .i64 (Sw.monSum xs), .bool false, .bool false, undef, v0, .slice A 5 c, u0, u1, u2, undef], []⟩ ∧ CopySt encI 1 3 τ 2 wx W0.heap.size 5 xs l0 r0 v0 u0 ∧ MakeSt encI 1 3 τ 4 wx W0.heap.size 5 (List.replicate 5 (0 : Int)) r1 u1 ∧ MakeSt encI 1 3 τ 5 wx W0.heap.size 5 (List.replicate 5 (0 : Int)) r2 u2
structure NewI (A : Option Addr) (c : Nat) (xs : List Int) (w W0 : World) (n : Nat) (l : Array Bool) (a : Act) (wx : World) : Prop where
 keep : KF 0 w wx
 held : HeldB (w.heap.size) 6 W0 wx
 up : W0.heap.size ≤ wx.heap.size
 st : ∃ (r0 r1 r2 : Bool) (u0 u1 u2 : Value) (τ : Nat → Nat), n = cb r0 + cb r1 + cb r2 ∧ l = #[true, r0, r1, r2, false, false] ∧ a = ⟨#[.slice A 5 c, undef, .pointer (some ⟨w.heap.size, 0, none⟩), .slice A 5 c, .bool true, .bool false, .bool false, .slice A 5 c, .int .i64 (Sw.monSum xs), .bool false, .bool false, undef, .slice A 5 c, u0, u1, u2, undef], []⟩ ∧ MakeSt encI 1 3 τ 2 wx W0.heap.size 5 xs r0 u0 ∧ MakeSt encI 1 3 τ 4 wx W0.heap.size 5 (List.replicate 5 (0 : Int)) r1 u1 ∧ MakeSt encI 1 3 τ 5 wx W0.heap.size 5 (List.replicate 5 (0 : Int)) r2 u2
theorem sMktNew_c (A : Option Addr) (c n : Nat) (xs : List Int) (w : World) (hxs : RI w 0 A c n xs) : Calls Tryz.prog 112 #[.slice A n c] w fun E w' => ∃ bL bLc bLn bP bPc bPn bD bDc bDn bN bNc bNn bS bSc bSn τ, E = .returned (.agg #[.slice bL bLn bLc, .slice bP bPn bPc, .slice bD bDn bDc, .int .i64 (Sw.mktNew xs).clock, .slice bN bNn bNc, .slice bS bSn bSc]) ∧ OwM τ w' w.heap.size bL bLc bLn bP bPc bPn bD bDc bDn bN bNc bNn bS bSc bSn (Sw.mktNew xs) ∧ Ex w w' := by
 cases g1 : Sw.monOk xs
 case false =>
   have e : Sw.mktNew xs = Sw.mktZ := by rw [Sw.mktNew, g1]; rfl
   have He := Lib.hid e; clear e
   go_enter Tryz.func112, Tryz.ntmps112
   go_wp2_with (first | (go_at_call 97; apply Calls.mono; apply sMonOk_c; (exact rdw_); rintro E w' ⟨rfl, rfl⟩))
   refine bodyPost_ret (v := .agg #[.slice none 0 0, .slice none 0 0, .slice none 0 0, .int .i64 0, .slice none 0 0, .slice none 0 0]) (by simp [results, Tryz.results112, go_sem, *]) rfl ?_
   refine ⟨_, _, _, _, _, _, _, _, _, _, _, _, _, _, _, fun _ => 0, by rw [He.out]; rfl, ?_, ext_⟩
   rw [He.out]
   exact OwM.zero
 have h5 := monOk_len g1
 have hn5 : n = 5 := by rw [hxs.1, h5]
 subst hn5
 clear h5
 by_cases g2 : Sw.monSum xs ≤ 100000
 case neg =>
   have e : Sw.mktNew xs = Sw.mktZ := by simp [Sw.mktNew, g1, g2]
   have He := Lib.hid e; clear e
   have g2' : decide (100000 < Sw.monSum xs) = true := by simp; omega
   go_enter Tryz.func112, Tryz.ntmps112
   go_wp2_with (first | (go_at_call 97; apply Calls.mono; apply sMonOk_c; (exact rdw_); rintro E w' ⟨rfl, rfl⟩) | (go_at_call 104; apply Calls.mono; apply sMonSum_c; (exact rdw_); rintro E w' ⟨rfl, rfl⟩))
   refine bodyPost_ret (v := .agg #[.slice none 0 0, .slice none 0 0, .slice none 0 0, .int .i64 0, .slice none 0 0, .slice none 0 0]) (by simp [results, Tryz.results112, go_sem, *]) rfl ?_
   refine ⟨_, _, _, _, _, _, _, _, _, _, _, _, _, _, _, fun _ => 0, by rw [He.out]; rfl, ?_, ext_⟩
   rw [He.out]
   exact OwM.zero
 have e : Sw.mktNew xs = ⟨[], xs, [], 0, [0, 0, 0, 0, 0], [0, 0, 0, 0, 0]⟩ := by simp [Sw.mktNew, g1, g2]
 have He := Lib.hid e; clear e
 have g2' : decide (100000 < Sw.monSum xs) = false := by simp; omega
 go_enter Tryz.func112, Tryz.ntmps112
 go_wp2_with (first | (go_at_call 97; apply Calls.mono; apply sMonOk_c; (exact rdw_); rintro E w' ⟨rfl, rfl⟩) | (go_at_call 104; apply Calls.mono; apply sMonSum_c; (exact rdw_); rintro E w' ⟨rfl, rfl⟩))
 (refine wn_ fun W0 hb0 hc0 hf0 hz0 => ?_; have hLb : Lb W0 (w.heap.size) 6 := Lb.ex (by exact lbc_) hb0; refine wp_region_held_drew (S := fun w' => HeldB (w.heap.size) 6 W0 w') (by kernel_rfl) ?_ (fun hHeld => ?_); (focus ((try dsimp only); (exact hqb_))); refine regT 1 13 (v := ?_) rfl rfl (by kernel_rfl) (by kernel_rfl) (by kernel_rfl) (fun _ _ _ h => h) (by rfl) ?_ (by assumption) ?_; rotate_left; (focus (intro w hSw; (try dsimp only at hSw); (try (have hst := xc (HeldB.ch hSw); (try simp only [zq_] at hst); obtain ⟨hcS, hfS, hzS⟩ := hst)); go_simp; (try with_reducible rfl))); (try simp only [Act.put, pz_]))
 have hlt0 : w.heap.size < W0.heap.size := hLb.lt
 refine wpAnyH_inv (Inv := NewS A c xs w W0) (k := 2) ?_ ?_ ?_ 4 _ _ _ ?_
 case refine_4 =>
   exact ⟨by (exact kf_), hHeld, Nat.le_refl _, false, false, false, false, undef, undef, undef, undef, fun _ => 0, rfl, by kernel_rfl, rfl, .none _ _, .none _, .none _⟩
 case refine_1 =>
   rintro l a wx ⟨hk, hHeld, hup, l0, r0, r1, r2, v0, u0, u1, u2, τ, hn0, rfl, rfl, C0, C1, C2⟩
   obtain rfl : l0 = true := by cases l0 <;> first | rfl | (exfalso; revert hn0; simp [cb]; done) | (exfalso; revert hn0; simp [cb]; omega)
   obtain rfl : r0 = true := by cases r0 <;> first | rfl | (exfalso; revert hn0; simp [cb]; done) | (exfalso; revert hn0; simp [cb]; omega)
   obtain rfl : r1 = true := by cases r1 <;> first | rfl | (exfalso; revert hn0; simp [cb]; done) | (exfalso; revert hn0; simp [cb]; omega)
   obtain rfl : r2 = true := by cases r2 <;> first | rfl | (exfalso; revert hn0; simp [cb]; done) | (exfalso; revert hn0; simp [cb]; omega)
   obtain ⟨A0, c0, rfl, t0⟩ : ∃ A c, u0 = .slice A 5 c ∧ OwT encI 1 3 τ 2 wx W0.heap.size A c 5 xs := by (cases C0; exact ⟨_, _, rfl, by assumption⟩)
   obtain ⟨A1, c1, rfl, t1⟩ : ∃ A c, u1 = .slice A 5 c ∧ OwT encI 1 3 τ 4 wx W0.heap.size A c 5 (List.replicate 5 (0 : Int)) := by (cases C1; exact ⟨_, _, rfl, by assumption⟩)
   obtain ⟨A2, c2, rfl, t2⟩ : ∃ A c, u2 = .slice A 5 c ∧ OwT encI 1 3 τ 5 wx W0.heap.size A c 5 (List.replicate 5 (0 : Int)) := by (cases C2; exact ⟨_, _, rfl, by assumption⟩)
   clear C0 C1 C2 hn0
   refine regT 5 17 (v := ?_) rfl rfl (by kernel_rfl) (by kernel_rfl) (by kernel_rfl) (fun _ _ _ h => h) (by rfl) ?_ (by assumption) ?_
   rotate_left
   focus (intro w hSw; (try dsimp only at hSw); go_simp; (try with_reducible rfl))
   try simp only [Act.put, List.setIfInBounds_toArray, List.set_cons_zero, List.set_cons_succ]
   refine wpAnyH_ready (rs := [6]) (by kernel_rfl) (by simp) ?_
   refine AllReadyH.cons rfl (fun K hK => ?_) ?_
   rotate_left
   focus exact AllReadyH.nil
   have hLbx := hHeld.lb
   obtain ⟨hcx, hfx⟩ := Lb.rules hLbx
   go_simp
   refine hK.out _ _ ?_ (fun hHx => ?_)
   focus ((exact hqb_))
   have hb := hHeld.ch
   clear hK K hHeld hcx hfx hLbx
   (obtain ⟨hc, hf, hz⟩ := xd hb)
   have hLb3 := HeldB.lb hHx
   repeat (replace hLb3 := Lb.unset hLb3)
   obtain ⟨hcb, hfb⟩ := Lb.rules hLb3
   have hbf := HeldB.ch hHx
   clear hHx
   refine wpAnyH_done (by kernel_rfl) ?_ _
   go_wp2
   refine bodyPost_ret (v := .agg #[.slice none 0 0, .slice A0 5 c0, .slice none 0 0, .int .i64 0, .slice A1 5 c1, .slice A2 5 c2]) (by simp [results, Tryz.results112, go_sem, *]) rfl ?_
   refine ⟨_, _, _, _, _, _, _, _, _, _, _, _, _, _, _, τ, by rw [He.out], ?_, ext_⟩
   rw [He.out]
   exact ⟨OwT.nil .., (t0.keepF (by (exact kf_))).less (by omega), OwT.nil .., (t1.keepF (by (exact kf_))).less (by omega), (t2.keepF (by (exact kf_))).less (by omega)⟩
 case refine_2 =>
   rintro n l a wx ⟨hk, hHeld, hup, l0, r0, r1, r2, v0, u0, u1, u2, τ, hn0, rfl, rfl, C0, C1, C2⟩ he
   obtain rfl : l0 = true := by (cases l0 with | true => rfl | false => exact absurd he (ready_ne (i := 0) (by kernel_rfl)))
   obtain rfl : r0 = true := by (cases r0 with | true => rfl | false => exact absurd he (ready_ne (i := 2) (by kernel_rfl)))
   obtain rfl : r1 = true := by (cases r1 with | true => rfl | false => exact absurd he (ready_ne (i := 3) (by kernel_rfl)))
   obtain rfl : r2 = true := by (cases r2 with | true => rfl | false => exact absurd he (ready_ne (i := 4) (by kernel_rfl)))
   simp [cb] at hn0
 case refine_3 =>
   rintro n l a wx ⟨hk, hHeld, hup, l0, r0, r1, r2, v0, u0, u1, u2, τ, hn0, rfl, rfl, C0, C1, C2⟩ i hi
   obtain ⟨hi0, oi, ho, hdep⟩ := mem_ready.1 hi
   clear hi
   have hin : i < 7 := (Array.getElem?_eq_some_iff.1 ho).1
   rcases (show i = 0 ∨ i = 1 ∨ i = 2 ∨ i = 3 ∨ i = 4 ∨ i = 5 ∨ i = 6 by omega) with rfl | rfl | rfl | rfl | rfl | rfl | rfl
   · -- 0
     obtain rfl : l0 = false := hi0
     cases C0
     clear ho hdep
     refine wpOp_step rfl fun K hK => ?_
     go_simp
     refine hK _ _ ⟨hHeld.alloc _, hk.alloc, hHeld.alloc _, (by simp; omega), true, false, r1, r2, .slice (some ⟨wx.heap.size, 0, none⟩) 0 0, u0, u1, u2, glue τ wx.heap.size (fun _ => 2), ?_, rfl, rfl, .made _ _ _ (OwT.begun (Ow.new [] rfl rfl rfl (fun _ => rfl) (by omega) (by omega))), C1.alloc, C2.alloc⟩
     simp only [cb] at hn0 ⊢; simp at hn0 ⊢; omega
   · -- 1
     exact Bool.noConfusion (show true = false from hi0)
   · -- 2
     obtain rfl : r0 = false := hi0
     obtain rfl := Option.some.inj (show some _ = some oi from ho)
     have d := hdep ⟨0, .data⟩ (by simp) rfl
     obtain rfl : l0 = true := d
     clear ho hdep
     obtain ⟨Ax, cx, rfl, ht⟩ : ∃ A c, v0 = .slice A 0 c ∧ OwT encI 1 3 τ 2 wx W0.heap.size A c 0 [] := by (cases C0; exact ⟨_, _, rfl, by assumption⟩)
     clear C0
     refine wpOp_step rfl fun K hK => ?_
     apply step_app el_I one_I rfl rfl rfl rfl ht.ow (Rs.at0 hxs hk) (by omega) hup
     intro A1 c1 w2 ho1 hch1 hat1 hex1 hlow1
     rw [List.nil_append] at ho1; simp only [Nat.zero_add] at ho1
     have hbx := hex1 (· = (w.heap.size)) W0 hHeld.ch (Nat.le_refl _)
     have hlbx := Lb.low hlow1 hlt0 hHeld.lb
     simp only [Nat.zero_add]
     have hKF : KF 0 w w2 := kL ⟨hch1.size, hlow1⟩ hk (by omega)
     refine hK _ _ ⟨HeldB.of hbx hlbx, hKF, HeldB.of hbx hlbx, Nat.le_trans hup hch1.size, true, true, r1, r2, .slice Ax 0 cx, .slice A1 5 c1, u1, u2, glue τ wx.heap.size (fun _ => 2), ?_, rfl, rfl, .done _ _ _ (OwT.full ho1 ht hat1), C1.app hch1 ht.tag (by decide), C2.app hch1 ht.tag (by decide)⟩
     simp only [cb] at hn0 ⊢; simp at hn0 ⊢; omega
   · -- 3
     obtain rfl : r1 = false := hi0
     cases C1
     clear ho hdep
     refine wpOp_step rfl fun K hK => ?_
     apply step_mk (lo := wx.heap.size) el_I (0 : Int) z_I rfl rfl rfl rfl rfl (by first | decide | omega) (by first | decide | (unfold maxLen; omega)) (Nat.le_refl _)
     intro w2 ho1 hb1 hz1
     refine hK _ _ ⟨hHeld.ex hb1, kE hb1 hk, hHeld.ex hb1, (by omega), l0, r0, true, r2, v0, u0, .slice (some ⟨wx.heap.size, 0, none⟩) 5 5, u2, glue τ wx.heap.size (fun _ => 4), ?_, rfl, rfl, C0.ex hb1, .done _ _ (OwT.newT ho1 (Nat.le_refl _) hup), C2.ex hb1⟩
     simp only [cb] at hn0 ⊢; simp at hn0 ⊢; omega
   · -- 4
     obtain rfl : r2 = false := hi0
     cases C2
     clear ho hdep
     refine wpOp_step rfl fun K hK => ?_
     apply step_mk (lo := wx.heap.size) el_I (0 : Int) z_I rfl rfl rfl rfl rfl (by first | decide | omega) (by first | decide | (unfold maxLen; omega)) (Nat.le_refl _)
     intro w2 ho1 hb1 hz1
     refine hK _ _ ⟨hHeld.ex hb1, kE hb1 hk, hHeld.ex hb1, (by omega), l0, r0, r1, true, v0, u0, u1, .slice (some ⟨wx.heap.size, 0, none⟩) 5 5, glue τ wx.heap.size (fun _ => 5), ?_, rfl, rfl, C0.ex hb1, C1.ex hb1, .done _ _ (OwT.newT ho1 (Nat.le_refl _) hup)⟩
     simp only [cb] at hn0 ⊢; simp at hn0 ⊢; omega
   · -- 5
     obtain rfl := Option.some.inj (show some _ = some oi from ho)
     obtain rfl : r0 = true := hdep ⟨2, .data⟩ (by simp) rfl
     obtain rfl : l0 = true := by (cases C0; rfl)
     obtain rfl : r1 = true := hdep ⟨3, .data⟩ (by simp) rfl
     obtain rfl : r2 = true := hdep ⟨4, .data⟩ (by simp) rfl
     simp [cb] at hn0
   · -- 6
     obtain rfl := Option.some.inj (show some _ = some oi from ho)
     exact Bool.noConfusion (show false = true from hdep ⟨5, .data⟩ (by simp) rfl)
end Go.Proofs.YtnnoiagommiapaaGreat

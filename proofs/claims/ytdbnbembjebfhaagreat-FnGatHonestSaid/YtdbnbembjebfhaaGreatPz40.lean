/-
  Texts joined: LawTo3.
-/
import Derived.Test.YtdbnbembjebfhaaGreatPz39
namespace Go.Proofs.YtdbnbembjebfhaaGreat
set_option maxRecDepth 100000
set_option linter.unusedSimpArgs false
set_option linter.unusedVariables false
open Go.RowKit Go
set_option maxHeartbeats 400000

def tau5 (a b c d : Nat) : Nat → Nat := fun x => if x = a then 1 else if x = b then 2 else if x = c then 3 else if x = d then 4 else 5
section
variable {a b c d e : Nat}
theorem tau5_1 : tau5 a b c d a = 1 := if_pos rfl
theorem tau5_2 (h : a < b) : tau5 a b c d b = 2 := by unfold tau5; rw [if_neg (by omega), if_pos rfl]
theorem tau5_3 (h : a < c) (h2 : b < c) : tau5 a b c d c = 3 := by unfold tau5; rw [if_neg (by omega), if_neg (by omega), if_pos rfl]
theorem tau5_4 (h : a < d) (h2 : b < d) (h3 : c < d) : tau5 a b c d d = 4 := by unfold tau5; rw [if_neg (by omega), if_neg (by omega), if_neg (by omega), if_pos rfl]
theorem tau5_5 (h : a < e) (h2 : b < e) (h3 : c < e) (h4 : d < e) : tau5 a b c d e = 5 := by unfold tau5; rw [if_neg (by omega), if_neg (by omega), if_neg (by omega), if_neg (by omega)]
end
section
variable {α : Type} {enc : α → List Value} {sz : Nat} {e : TypeId} {fd fp τ τ' : Nat → Nat} {t : Nat} {w w' : World} {lo lo' c n k : Nat} {A : Option Addr} {xs : List α}
theorem OwT.one {g : Nat} (h : Ow enc sz e w lo (some ⟨g, 0, none⟩) c n xs) (ht : τ g = t) : OwT enc sz e τ t w lo (some ⟨g, 0, none⟩) c n xs := ⟨h, fun a ha => by cases ha; exact ht⟩
theorem OwT.keepF (h : OwT enc sz e τ t w lo A c n xs) (hk : KF lo w w') : OwT enc sz e τ t w' lo A c n xs := h.keep (.of hk)
theorem OwM.keepF {aL : Option Addr} {aLc aLn : Nat} {aP : Option Addr} {aPc aPn : Nat} {aD : Option Addr} {aDc aDn : Nat} {aN : Option Addr} {aNc aNn : Nat} {aS : Option Addr} {aSc aSn : Nat} {m : Sw.Mkt} (h : OwM τ w lo aL aLc aLn aP aPc aPn aD aDc aDn aN aNc aNn aS aSc aSn m) (hk : KF lo w w') : OwM τ w' lo aL aLc aLn aP aPc aPn aD aDc aDn aN aNc aNn aS aSc aSn m := h.keep fun _ _ _ => .of hk
theorem OwG.keepF {gs : List Sw.Gate} (h : OwG fd τ w lo A c n gs) (hk : KF lo w w') : OwG fd τ w' lo A c n gs := h.keep (.of hk) fun _ => .of hk
theorem OwX.keepF {gs : List Sw.Msg} (h : OwX fp τ w lo A c n gs) (hk : KF lo w w') : OwX fp τ w' lo A c n gs := h.keep (.of hk) fun _ => .of hk
theorem OwW.keepF {aF : Option Addr} {aFc aFn : Nat} {aL : Option Addr} {aLc aLn : Nat} {aP : Option Addr} {aPc aPn : Nat} {aD : Option Addr} {aDc aDn : Nat} {aN : Option Addr} {aNc aNn : Nat} {aS : Option Addr} {aSc aSn : Nat} {aI : Option Addr} {aIc aIn : Nat} {aG : Option Addr} {aGc aGn : Nat} {aB : Option Addr} {aBc aBn : Nat} {x : Sw.World} (h : OwW fd fp τ w lo aF aFc aFn aL aLc aLn aP aPc aPn aD aDc aDn aN aNc aNn aS aSc aSn aI aIc aIn aG aGc aGn aB aBc aBn x) (hk : KF lo w w') : OwW fd fp τ w' lo aF aFc aFn aL aLc aLn aP aPc aPn aD aDc aDn aN aNc aNn aS aSc aSn aI aIc aIn aG aGc aGn aB aBc aBn x := ⟨h.1.keepF hk, h.2.keepF hk, h.3.keepF hk, h.4.keepF hk, h.5.keepF hk⟩
theorem OwM.glueL {aL : Option Addr} {aLc aLn : Nat} {aP : Option Addr} {aPc aPn : Nat} {aD : Option Addr} {aDc aDn : Nat} {aN : Option Addr} {aNc aNn : Nat} {aS : Option Addr} {aSc aSn : Nat} {m : Sw.Mkt} (h : OwM τ w lo aL aLc aLn aP aPc aPn aD aDc aDn aN aNc aNn aS aSc aSn m) (hk : w.heap.size ≤ k) : OwM (glue τ k τ') w lo aL aLc aLn aP aPc aPn aD aDc aDn aN aNc aNn aS aSc aSn m := h.retag fun b hb => if_pos (by omega)
theorem OwG.glueL {gs : List Sw.Gate} (h : OwG fd τ w lo A c n gs) (hk : w.heap.size ≤ k) : OwG fd (glue τ k τ') w lo A c n gs := h.retag fun b hb => if_pos (by omega)
theorem OwX.glueL {gs : List Sw.Msg} (h : OwX fp τ w lo A c n gs) (hk : w.heap.size ≤ k) : OwX fp (glue τ k τ') w lo A c n gs := h.retag fun b hb => if_pos (by omega)
theorem OwT.rs0 (h : OwT enc sz e τ t w lo A c n xs) (hk : KF lo w w') : Rs enc sz w' 0 A c n xs := h.rs.at0 hk
theorem OwM.rm0 {aL : Option Addr} {aLc aLn : Nat} {aP : Option Addr} {aPc aPn : Nat} {aD : Option Addr} {aDc aDn : Nat} {aN : Option Addr} {aNc aNn : Nat} {aS : Option Addr} {aSc aSn : Nat} {m : Sw.Mkt} (h : OwM τ w lo aL aLc aLn aP aPc aPn aD aDc aDn aN aNc aNn aS aSc aSn m) (hk : KF lo w w') : RM w' 0 aL aLc aLn aP aPc aPn aD aDc aDn aN aNc aNn aS aSc aSn m := h.rm.at0 hk
theorem OwW.rw0 {aF : Option Addr} {aFc aFn : Nat} {aL : Option Addr} {aLc aLn : Nat} {aP : Option Addr} {aPc aPn : Nat} {aD : Option Addr} {aDc aDn : Nat} {aN : Option Addr} {aNc aNn : Nat} {aS : Option Addr} {aSc aSn : Nat} {aI : Option Addr} {aIc aIn : Nat} {aG : Option Addr} {aGc aGn : Nat} {aB : Option Addr} {aBc aBn : Nat} {x : Sw.World} (h : OwW fd fp τ w lo aF aFc aFn aL aLc aLn aP aPc aPn aD aDc aDn aN aNc aNn aS aSc aSn aI aIc aIn aG aGc aGn aB aBc aBn x) (hk : KF lo w w') : RW w' 0 aF aFc aFn aL aLc aLn aP aPc aPn aD aDc aDn aN aNc aNn aS aSc aSn aI aIc aIn aG aGc aGn aB aBc aBn x := h.rw_.at0 hk
theorem OwG.rg0 {gs : List Sw.Gate} (h : OwG fd τ w lo A c n gs) (hk : KF lo w w') : RG w' 0 A c n gs := h.rg.at0 hk
theorem OwX.rx0 {gs : List Sw.Msg} (h : OwX fp τ w lo A c n gs) (hk : KF lo w w') : RX w' 0 A c n gs := h.rx.at0 hk
/-- Five pieces that were made one behind the other are a world. -/
theorem OwW.build {w1 w2 w3 w4 w5 W : World} {lo lo1 lo2 lo3 lo4 lo5 : Nat} {aF : Option Addr} {aFc aFn : Nat} {aL : Option Addr} {aLc aLn : Nat} {aP : Option Addr} {aPc aPn : Nat} {aD : Option Addr} {aDc aDn : Nat} {aN : Option Addr} {aNc aNn : Nat} {aS : Option Addr} {aSc aSn : Nat} {aI : Option Addr} {aIc aIn : Nat} {aG : Option Addr} {aGc aGn : Nat} {aB : Option Addr} {aBc aBn : Nat} {x : Sw.World} {τM τG τX : Nat → Nat}
    (h1 : OwI w1 lo1 aF aFc aFn x.first) (h2 : OwM τM w2 lo2 aL aLc aLn aP aPc aPn aD aDc aDn aN aNc aNn aS aSc aSn x.market) (h3 : OwQ w3 lo3 aI aIc aIn x.lines) (h4 : OwG fd τG w4 lo4 aG aGc aGn x.gates) (h5 : OwX fp τX w5 lo5 aB aBc aBn x.bag)
    (l2 : w1.heap.size ≤ lo2) (l3 : w2.heap.size ≤ lo3) (l4 : w3.heap.size ≤ lo4) (l5 : w4.heap.size ≤ lo5) (b2 : lo2 ≤ w2.heap.size) (b3 : lo3 ≤ w3.heap.size) (b4 : lo4 ≤ w4.heap.size) (hl : lo ≤ lo1) (b1 : lo1 ≤ w1.heap.size)
    (k1 : KF lo1 w1 W) (k2 : KF lo2 w2 W) (k3 : KF lo3 w3 W) (k4 : KF lo4 w4 W) (k5 : KF lo5 w5 W) :
    OwW fd fp (glue (fun _ => 6) w1.heap.size (glue τM w2.heap.size (glue (fun _ => 7) w3.heap.size (glue τG w4.heap.size τX)))) W lo aF aFc aFn aL aLc aLn aP aPc aPn aD aDc aDn aN aNc aNn aS aSc aSn aI aIc aIn aG aGc aGn aB aBc aBn x := by
  have p1 : OwTI (fun _ => 6) 6 w1 lo1 aF aFc aFn x.first := ⟨h1, fun _ _ => rfl⟩
  have p3 : OwTQ (fun _ => 7) 7 w3 lo3 aI aIc aIn x.lines := ⟨h3, fun _ _ => rfl⟩
  refine ⟨((p1.glueL (Nat.le_refl _)).keepF k1).less hl, ?_, ?_, ?_, ?_⟩
  · exact (((h2.glueL (Nat.le_refl _)).glueR l2).keepF k2).less (by omega)
  · exact ((((p3.glueL (Nat.le_refl _)).glueR l3).glueR (by omega)).keepF k3).less (by omega)
  · exact (((((h4.glueL (Nat.le_refl _)).glueR l4).glueR (by omega)).glueR (by omega)).keepF k4).less (by omega)
  · exact (((((h5.glueR l5).glueR (by omega)).glueR (by omega)).glueR (by omega)).keepF k5).less (by omega)
end

theorem toMktHouse_c (aL : Option Addr) (aLc aLn : Nat) (aP : Option Addr) (aPc aPn : Nat) (aD : Option Addr) (aDc aDn : Nat) (aN : Option Addr) (aNc aNn : Nat) (aS : Option Addr) (aSc aSn : Nat) (m : Sw.Mkt) (w : World) (hm : RM w 0 aL aLc aLn aP aPc aPn aD aDc aDn aN aNc aNn aS aSc aSn m) (hn : aLn + aPn + aDn + aNn + aSn ≤ 1048576) : Calls Tryz.prog 76 #[.agg #[.slice aL aLn aLc, .slice aP aPn aPc, .slice aD aDn aDc, .int .i64 m.clock, .slice aN aNn aNc, .slice aS aSn aSc]] w fun E w' => ∃ bL bLc bLn bP bPc bPn bD bDc bDn bN bNc bNn bS bSc bSn τ, E = .returned (.agg #[.slice bL bLn bLc, .slice bP bPn bPc, .slice bD bDn bDc, .int .i64 m.clock, .slice bN bNn bNc, .slice bS bSn bSc]) ∧ OwM τ w' w.heap.size bL bLc bLn bP bPc bPn bD bDc bDn bN bNc bNn bS bSc bSn m ∧ Ex w w' := by
  obtain ⟨m1, m2, m3, m4, m5⟩ := hm
  go_enter Tryz.func76, Tryz.ntmps76
  go_wp2_with (first | (go_at_call 147; apply Calls.mono; apply toEntEntryS_c; (apply Rs.at0 m1; (exact kf_)); (first | assumption | omega); rintro E w1 ⟨gL, rfl, hoL, hgeL, hltL, hb⟩; (try simp only [zA, zC, zD, zN] at hgeL); (try simp only [zA, zC, zD, zN] at hltL); have hst := xr hb; (try simp only [zA, zC, zD, zN] at hst); obtain ⟨hc, hf, hz⟩ := hst) | (go_at_call 75; apply Calls.mono; apply toIntS_c; (apply Rs.at0 m2; (exact kf_)); (first | assumption | omega); rintro E w1 ⟨gP, rfl, hoP, hgeP, hltP, hb⟩; (try simp only [zA, zC, zD, zN] at hgeP); (try simp only [zA, zC, zD, zN] at hltP); have hst := xr hb; (try simp only [zA, zC, zD, zN] at hst); obtain ⟨hc, hf, hz⟩ := hst) | (go_at_call 148; apply Calls.mono; apply toMktDealS_c; (apply Rs.at0 m3; (exact kf_)); (first | assumption | omega); rintro E w1 ⟨gD, rfl, hoD, hgeD, hltD, hb⟩; (try simp only [zA, zC, zD, zN] at hgeD); (try simp only [zA, zC, zD, zN] at hltD); have hst := xr hb; (try simp only [zA, zC, zD, zN] at hst); obtain ⟨hc, hf, hz⟩ := hst) | (go_at_call 75; apply Calls.mono; apply toIntS_c; (apply Rs.at0 m4; (exact kf_)); (first | assumption | omega); rintro E w1 ⟨gN, rfl, hoN, hgeN, hltN, hb⟩; (try simp only [zA, zC, zD, zN] at hgeN); (try simp only [zA, zC, zD, zN] at hltN); have hst := xr hb; (try simp only [zA, zC, zD, zN] at hst); obtain ⟨hc, hf, hz⟩ := hst) | (go_at_call 75; apply Calls.mono; apply toIntS_c; (apply Rs.at0 m5; (exact kf_)); (first | assumption | omega); rintro E w1 ⟨gS, rfl, hoS, hgeS, hltS, hb⟩; (try simp only [zA, zC, zD, zN] at hgeS); (try simp only [zA, zC, zD, zN] at hltS); have hst := xr hb; (try simp only [zA, zC, zD, zN] at hst); obtain ⟨hc, hf, hz⟩ := hst))
  refine bodyPost_ret (v := .agg #[.slice (some ⟨gL, 0, none⟩) aLn aLn, .slice (some ⟨gP, 0, none⟩) aPn aPn, .slice (some ⟨gD, 0, none⟩) aDn aDn, .int .i64 m.clock, .slice (some ⟨gN, 0, none⟩) aNn aNn, .slice (some ⟨gS, 0, none⟩) aSn aSn]) (by simp [results, Tryz.results76, go_sem, *]) rfl ?_
  refine ⟨_, _, _, _, _, _, _, _, _, _, _, _, _, _, _, tau5 gL gP gD gN, rfl, ⟨?_, ?_, ?_, ?_, ?_⟩, ext_⟩
  · exact .one ((hoL.keep (by (exact kf_))).less (by exact sz_)) tau5_1
  · exact .one ((hoP.keep (by (exact kf_))).less (by exact sz_)) (tau5_2 (by omega))
  · exact .one ((hoD.keep (by (exact kf_))).less (by exact sz_)) (tau5_3 (by omega) (by omega))
  · exact .one ((hoN.keep (by (exact kf_))).less (by exact sz_)) (tau5_4 (by omega) (by omega) (by omega))
  · exact .one ((hoS.keep (by (exact kf_))).less (by exact sz_)) (tau5_5 (by omega) (by omega) (by omega) (by omega))

theorem toWldWorld_c (aF : Option Addr) (aFc aFn : Nat) (aL : Option Addr) (aLc aLn : Nat) (aP : Option Addr) (aPc aPn : Nat) (aD : Option Addr) (aDc aDn : Nat) (aN : Option Addr) (aNc aNn : Nat) (aS : Option Addr) (aSc aSn : Nat) (aI : Option Addr) (aIc aIn : Nat) (aG : Option Addr) (aGc aGn : Nat) (aB : Option Addr) (aBc aBn : Nat) (x : Sw.World) (w : World) (hx : RW w 0 aF aFc aFn aL aLc aLn aP aPc aPn aD aDc aDn aN aNc aNn aS aSc aSn aI aIc aIn aG aGc aGn aB aBc aBn x) (hn : aFn + (aLn + aPn + aDn + aNn + aSn) + aIn + (aGn + dsz x.gates) + (aBn + psz x.bag) ≤ 1048576) : Calls Tryz.prog 20 #[.agg #[.slice aF aFn aFc, .slice aL aLn aLc, .slice aP aPn aPc, .slice aD aDn aDc, .int .i64 x.market.clock, .slice aN aNn aNc, .slice aS aSn aSc, .slice aI aIn aIc, .slice aG aGn aGc, .slice aB aBn aBc]] w fun E w' => ∃ bF bFc bFn bL bLc bLn bP bPc bPn bD bDc bDn bN bNc bNn bS bSc bSn bI bIc bIn bG bGc bGn bB bBc bBn τ, E = .returned (.agg #[.slice bF bFn bFc, .slice bL bLn bLc, .slice bP bPn bPc, .slice bD bDn bDc, .int .i64 x.market.clock, .slice bN bNn bNc, .slice bS bSn bSc, .slice bI bIn bIc, .slice bG bGn bGc, .slice bB bBn bBc]) ∧ OwW fdS fpS τ w' w.heap.size bF bFc bFn bL bLc bLn bP bPc bPn bD bDc bDn bN bNc bNn bS bSc bSn bI bIc bIn bG bGc bGn bB bBc bBn x ∧ Ex w w' := by
  obtain ⟨x1, x2, x3, x4, x5⟩ := hx
  go_enter Tryz.func20, Tryz.ntmps20
  go_wp2_with (first | (go_at_call 75; apply Calls.mono; apply toIntS_c; (apply Rs.at0 x1; (exact kf_)); omega; rintro E w1 ⟨gF, rfl, hoF, hgeF, hltF, hb1⟩; have hst := Ex.rules hb1 rfl; (try simp only [World.size_alloc, World.size_setCell, World.size_drew] at hst hgeF hltF); obtain ⟨hc1, hf1, hz1⟩ := hst) | (go_at_call 76; apply Calls.mono; apply toMktHouse_c; (apply RM.at0 x2; (exact kf_)); omega; rintro E w2 ⟨bL, bLc, bLn, bP, bPc, bPn, bD, bDc, bDn, bN, bNc, bNn, bS, bSc, bSn, τM, rfl, hoM, hb2⟩; have hst := Ex.rules hb2 rfl; (try simp only [World.size_alloc, World.size_setCell, World.size_drew] at hst); obtain ⟨hc2, hf2, hz2⟩ := hst) | (go_at_call 77; apply Calls.mono; apply toWldLineS_c; (apply Rs.at0 x3; (exact kf_)); omega; rintro E w3 ⟨gI, rfl, hoI, hgeI, hltI, hb3⟩; have hst := Ex.rules hb3 rfl; (try simp only [World.size_alloc, World.size_setCell, World.size_drew] at hst hgeI hltI); obtain ⟨hc3, hf3, hz3⟩ := hst) | (go_at_call 78; apply Calls.mono; apply toGatGateS_c; (apply RG.at0 x4; (exact kf_)); omega; rintro E w4 ⟨gG, τG, rfl, hoG, hb4⟩; have hst := Ex.rules hb4 rfl; (try simp only [World.size_alloc, World.size_setCell, World.size_drew] at hst); obtain ⟨hc4, hf4, hz4⟩ := hst) | (go_at_call 79; apply Calls.mono; apply toWldMsgS_c; (apply RX.at0 x5; (exact kf_)); omega; rintro E w5 ⟨gB, τX, rfl, hoX, hb5⟩; have hst := Ex.rules hb5 rfl; (try simp only [World.size_alloc, World.size_setCell, World.size_drew] at hst); obtain ⟨hc5, hf5, hz5⟩ := hst))
  refine bodyPost_ret (v := .agg #[.slice (some ⟨gF, 0, none⟩) aFn aFn, .slice bL bLn bLc, .slice bP bPn bPc, .slice bD bDn bDc, .int .i64 x.market.clock, .slice bN bNn bNc, .slice bS bSn bSc, .slice (some ⟨gI, 0, none⟩) aIn aIn, .slice (some ⟨gG, 0, none⟩) aGn aGn, .slice (some ⟨gB, 0, none⟩) aBn aBn]) (by simp [results, Tryz.results20, go_sem, *]) rfl ?_
  refine ⟨_, _, _, _, _, _, _, _, _, _, _, _, _, _, _, _, _, _, _, _, _, _, _, _, _, _, _, glue (fun _ => 6) w1.heap.size (glue τM w2.heap.size (glue (fun _ => 7) w3.heap.size (glue τG w4.heap.size τX))), rfl, ?_, ext_⟩
  refine OwW.build hoF hoM hoI hoG hoX (by exact sz_) (by exact sz_) (by exact sz_) (by exact sz_) hb2.size hb3.size hb4.size (by exact sz_) hb1.size ?_ ?_ ?_ ?_ ?_
  all_goals (exact kf_)
end Go.Proofs.YtdbnbembjebfhaaGreat


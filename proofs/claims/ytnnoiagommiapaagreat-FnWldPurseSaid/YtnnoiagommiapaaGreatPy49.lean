/- Texts joined: WldK, WldL, PtrT, PtrU, PtrV, PtrQ, PtrS, PtrR, PtrL2, PtrHr, PtrZ, PtrE2, PtrE3, DrawA, LawS, LawT. -/
import Derived.Test.YtnnoiagommiapaaGreatPy48
import Derived.Test.YtnnoiagommiapaaGreatPy30
import Derived.Test.YtnnoiagommiapaaGreatPy23
import Derived.Test.YtnnoiagommiapaaGreatPy40
import Derived.Test.YtnnoiagommiapaaGreatPy47
import Derived.Test.YtnnoiagommiapaaGreatPy42
import Derived.Test.YtnnoiagommiapaaGreatPy5
import Derived.Test.YtnnoiagommiapaaGreatPy20
import Derived.Test.YtnnoiagommiapaaGreatPy36
import Derived.Test.YtnnoiagommiapaaGreatPy7
import Derived.Test.YtnnoiagommiapaaGreatPy43
import Derived.Test.YtnnoiagommiapaaGreatPy9
import Derived.Test.YtnnoiagommiapaaGreatPy37
import Derived.Test.YtnnoiagommiapaaGreatPy16
import Derived.Test.YtnnoiagommiapaaGreatPy13
import Derived.Test.YtnnoiagommiapaaGreatPy3
import Derived.Test.YtnnoiagommiapaaGreatPy29
import Derived.Deep.DeepCutAuto
set_option maxRecDepth 100000
set_option linter.unusedSimpArgs false
set_option linter.unusedVariables false
namespace Go.Proofs.YtnnoiagommiapaaGreat
open Go.RowKit Go
set_option maxHeartbeats 4000000
theorem dsz_le : ∀ {gs : List Sw.Gate}, (∀ g ∈ gs, Sw.gatOk g = true) → dsz gs ≤ 8 * gs.length
 | [], _ => by simp [dsz]
 | g :: gs, h => by
   have h1 := gatOk_len (h g (List.mem_cons_self ..))
   have h2 := dsz_le fun x hx => h x (List.mem_cons_of_mem g hx)
   rw [dsz_cons, List.length_cons]; omega
theorem psz_le : ∀ {gs : List Sw.Msg}, (∀ g ∈ gs, Sw.msgOk g = true) → psz gs ≤ 40 * gs.length
 | [], _ => by simp [psz]
 | g :: gs, h => by
   have h1 := h g (List.mem_cons_self ..)
   have h2 := psz_le fun x hx => h x (List.mem_cons_of_mem g hx)
   simp only [Sw.msgOk, Bool.and_eq_true, Sw.treOk_iff] at h1
   rw [psz_cons, List.length_cons]; have := h1.2.1; omega
theorem wok_size {w : World} {lo : Nat} {aF : Option Addr} {aFc aFn : Nat} {aL : Option Addr} {aLc aLn : Nat} {aP : Option Addr} {aPc aPn : Nat} {aD : Option Addr} {aDc aDn : Nat} {aN : Option Addr} {aNc aNn : Nat} {aS : Option Addr} {aSc aSn : Nat} {aI : Option Addr} {aIc aIn : Nat} {aG : Option Addr} {aGc aGn : Nat} {aB : Option Addr} {aBc aBn : Nat} {x : Sw.World} (hW : RW w lo aF aFc aFn aL aLc aLn aP aPc aPn aD aDc aDn aN aNc aNn aS aSc aSn aI aIc aIn aG aGc aGn aB aBc aBn x) (h : Sw.WOk x) : aFn + (aLn + aPn + aDn + aNn + aSn) + aIn + (aGn + dsz x.gates) + (aBn + psz x.bag) ≤ 1048576 := by
 obtain ⟨rows, hm⟩ := Sw.mktOk_iff.1 h.mkt
 obtain ⟨m1, m2, m3, m4, m5⟩ := MOk_len hm
 have f1 := (Sw.monOk_iff.1 h.first).1
 have g1 := dsz_le h.gok
 have g2 := psz_le h.bok
 have g3 := h.glen
 have g4 := h.blen
 have g5 := h.lines
 have a1 := hW.first.1
 have a2 := hW.mkt.log.1
 have a3 := hW.mkt.purses.1
 have a4 := hW.mkt.deals.1
 have a5 := hW.mkt.nums.1
 have a6 := hW.mkt.said.1
 have a7 := hW.lines.1
 have a8 := hW.gates.len.1
 have a9 := hW.bag.len.1
 omega
theorem RG.none_ (w : World) (lo : Nat) : RG w lo none 0 0 [] := ⟨[], ⟨rfl, Rd.none_ _ _ _⟩, rfl, fun _ _ _ h => by simp at h⟩
set_option maxHeartbeats 8000000
structure WAt (w : World) (g : Nat) (aF : Option Addr) (aFc aFn : Nat) (aL : Option Addr) (aLc aLn : Nat) (aP : Option Addr) (aPc aPn : Nat) (aD : Option Addr) (aDc aDn : Nat) (aN : Option Addr) (aNc aNn : Nat) (aS : Option Addr) (aSc aSn : Nat) (aI : Option Addr) (aIc aIn : Nat) (aG : Option Addr) (aGc aGn : Nat) (aB : Option Addr) (aBc aBn : Nat) (clock : Int) : Prop where
 lt : g < w.heap.size
 c0 : w.cell? ⟨g, 0, none⟩ = some (.slice aF aFn aFc)
 c1 : w.cell? ⟨g, 1, none⟩ = some (.slice aL aLn aLc)
 c2 : w.cell? ⟨g, 2, none⟩ = some (.slice aP aPn aPc)
 c3 : w.cell? ⟨g, 3, none⟩ = some (.slice aD aDn aDc)
 c4 : w.cell? ⟨g, 4, none⟩ = some (.int .i64 clock)
 c5 : w.cell? ⟨g, 5, none⟩ = some (.slice aN aNn aNc)
 c6 : w.cell? ⟨g, 6, none⟩ = some (.slice aS aSn aSc)
 c7 : w.cell? ⟨g, 7, none⟩ = some (.slice aI aIn aIc)
 c8 : w.cell? ⟨g, 8, none⟩ = some (.slice aG aGn aGc)
 c9 : w.cell? ⟨g, 9, none⟩ = some (.slice aB aBn aBc)
 free : ∀ i, w.frozen? ⟨g, i, none⟩ = false
theorem WAt.keep {w w' : World} {g : Nat} {aF : Option Addr} {aFc aFn : Nat} {aL : Option Addr} {aLc aLn : Nat} {aP : Option Addr} {aPc aPn : Nat} {aD : Option Addr} {aDc aDn : Nat} {aN : Option Addr} {aNc aNn : Nat} {aS : Option Addr} {aSc aSn : Nat} {aI : Option Addr} {aIc aIn : Nat} {aG : Option Addr} {aGc aGn : Nat} {aB : Option Addr} {aBc aBn : Nat} {clock : Int} (h : WAt w g aF aFc aFn aL aLc aLn aP aPc aPn aD aDc aDn aN aNc aNn aS aSc aSn aI aIc aIn aG aGc aGn aB aBc aBn clock) (hk : w'.heap[g]? = w.heap[g]?) (hz : w.heap.size ≤ w'.heap.size) : WAt w' g aF aFc aFn aL aLc aLn aP aPc aPn aD aDc aDn aN aNc aNn aS aSc aSn aI aIc aIn aG aGc aGn aB aBc aBn clock := by
 have hc : ∀ i, w'.cell? ⟨g, i, none⟩ = w.cell? ⟨g, i, none⟩ := fun i => World.cell?_of_block (w := w) (a := ⟨g, i, none⟩) hk
 exact ⟨Nat.lt_of_lt_of_le h.lt hz, (hc _).trans h.c0, (hc _).trans h.c1, (hc _).trans h.c2, (hc _).trans h.c3, (hc _).trans h.c4, (hc _).trans h.c5, (hc _).trans h.c6, (hc _).trans h.c7, (hc _).trans h.c8, (hc _).trans h.c9, fun i => (World.frozen?_of_block (w := w) (a := ⟨g, i, none⟩) hk).trans (h.free i)⟩
structure Held2 (wb : World) (lo : Nat) (wr : World) (aF : Option Addr) (aFc aFn : Nat) (aL : Option Addr) (aLc aLn : Nat) (aP : Option Addr) (aPc aPn : Nat) (aD : Option Addr) (aDc aDn : Nat) (aN : Option Addr) (aNc aNn : Nat) (aS : Option Addr) (aSc aSn : Nat) (aI : Option Addr) (aIc aIn : Nat) (aG : Option Addr) (aGc aGn : Nat) (aB : Option Addr) (aBc aBn : Nat) (x : Sw.World) : Prop where
 rd : RW wb lo aF aFc aFn aL aLc aLn aP aPc aPn aD aDc aDn aN aNc aNn aS aSc aSn aI aIc aIn aG aGc aGn aB aBc aBn x
 kf : KF lo wb wr
theorem Held2.rw_ {wb wr : World} {lo : Nat} {aF : Option Addr} {aFc aFn : Nat} {aL : Option Addr} {aLc aLn : Nat} {aP : Option Addr} {aPc aPn : Nat} {aD : Option Addr} {aDc aDn : Nat} {aN : Option Addr} {aNc aNn : Nat} {aS : Option Addr} {aSc aSn : Nat} {aI : Option Addr} {aIc aIn : Nat} {aG : Option Addr} {aGc aGn : Nat} {aB : Option Addr} {aBc aBn : Nat} {x : Sw.World} (h : Held2 wb lo wr aF aFc aFn aL aLc aLn aP aPc aPn aD aDc aDn aN aNc aNn aS aSc aSn aI aIc aIn aG aGc aGn aB aBc aBn x) : RW wr lo aF aFc aFn aL aLc aLn aP aPc aPn aD aDc aDn aN aNc aNn aS aSc aSn aI aIc aIn aG aGc aGn aB aBc aBn x := h.rd.keep h.kf
theorem UpT.at_ {lo k b : Nat} {τ : Nat → Nat} {w w' : World} (h : Ch (UpT lo (glue τ k (fun _ => 0))) w w') (hk : k ≤ b) (hw : b < w.heap.size) : (∀ o, w'.cell? ⟨b, o, none⟩ = w.cell? ⟨b, o, none⟩) ∧ (∀ o, w'.frozen? ⟨b, o, none⟩ = w.frozen? ⟨b, o, none⟩) := by
 have hS : ¬ UpT lo (glue τ k (fun _ => 0)) b := fun hh => by have h1 := hh.2; rw [glue, if_neg (by omega)] at h1; omega
 exact ⟨fun o => h.cell (p := ⟨b, o, none⟩) hw hS, fun o => h.frozen (p := ⟨b, o, none⟩) hw hS⟩
theorem OwW.glueR {fd fp τ τ' : Nat → Nat} {w : World} {lo k : Nat} {aF : Option Addr} {aFc aFn : Nat} {aL : Option Addr} {aLc aLn : Nat} {aP : Option Addr} {aPc aPn : Nat} {aD : Option Addr} {aDc aDn : Nat} {aN : Option Addr} {aNc aNn : Nat} {aS : Option Addr} {aSc aSn : Nat} {aI : Option Addr} {aIc aIn : Nat} {aG : Option Addr} {aGc aGn : Nat} {aB : Option Addr} {aBc aBn : Nat} {x : Sw.World} (h : OwW fd fp τ w lo aF aFc aFn aL aLc aLn aP aPc aPn aD aDc aDn aN aNc aNn aS aSc aSn aI aIc aIn aG aGc aGn aB aBc aBn x) (hk : k ≤ lo) : OwW fd fp (glue τ' k τ) w lo aF aFc aFn aL aLc aLn aP aPc aPn aD aDc aDn aN aNc aNn aS aSc aSn aI aIc aIn aG aGc aGn aB aBc aBn x := ⟨h.1.glueR hk, h.2.glueR hk, h.3.glueR hk, h.4.glueR hk, h.5.glueR hk⟩
end Go.Proofs.YtnnoiagommiapaaGreat
namespace Go.Proofs.YtnnoiagommiapaaGreat
open Go.RowKit Go
set_option maxHeartbeats 4000000
section
variable {g lo : Nat} {τ0 τ : Nat → Nat} {w0 w : World} {aF : Option Addr} {aFc aFn : Nat} {aL : Option Addr} {aLc aLn : Nat} {aP : Option Addr} {aPc aPn : Nat} {aD : Option Addr} {aDc aDn : Nat} {aN : Option Addr} {aNc aNn : Nat} {aS : Option Addr} {aSc aSn : Nat} {aI : Option Addr} {aIc aIn : Nat} {aG : Option Addr} {aGc aGn : Nat} {aB : Option Addr} {aBc aBn : Nat} {x : Sw.World}
end
end Go.Proofs.YtnnoiagommiapaaGreat
namespace Go.Proofs.YtnnoiagommiapaaGreat
open Go.RowKit Go
set_option maxHeartbeats 4000000
def StepI (g lo : Nat) (τ0 : Nat → Nat) (w0 w' : World) (E : Ending) (n : Int) (z : Sw.World) : Prop :=
 ∃ (bF : Option Addr) (bFc bFn : Nat) (bL : Option Addr) (bLc bLn : Nat) (bP : Option Addr) (bPc bPn : Nat) (bD : Option Addr) (bDc bDn : Nat) (bN : Option Addr) (bNc bNn : Nat) (bS : Option Addr) (bSc bSn : Nat) (bI : Option Addr) (bIc bIn : Nat) (bG : Option Addr) (bGc bGn : Nat) (bB : Option Addr) (bBc bBn : Nat) (τ' : Nat → Nat), E = .returned (.int .i64 n) ∧ WS g lo τ0 w0 bF bFc bFn bL bLc bLn bP bPc bPn bD bDc bDn bN bNc bNn bS bSc bSn bI bIc bIn bG bGc bGn bB bBc bBn z τ' w'
section
variable {g lo : Nat} {τ0 τ : Nat → Nat} {w0 w : World} {aF : Option Addr} {aFc aFn : Nat} {aL : Option Addr} {aLc aLn : Nat} {aP : Option Addr} {aPc aPn : Nat} {aD : Option Addr} {aDc aDn : Nat} {aN : Option Addr} {aNc aNn : Nat} {aS : Option Addr} {aSc aSn : Nat} {aI : Option Addr} {aIc aIn : Nat} {aG : Option Addr} {aGc aGn : Nat} {aB : Option Addr} {aBc aBn : Nat} {x : Sw.World} {eq : Sw.Req} {ea et ew : Int}
end
end Go.Proofs.YtnnoiagommiapaaGreat
namespace Go.Proofs.YtnnoiagommiapaaGreat
open Go.RowKit Go
set_option maxHeartbeats 4000000
section
variable {g lo : Nat} {τ0 τ : Nat → Nat} {w0 w : World} {aF : Option Addr} {aFc aFn : Nat} {aL : Option Addr} {aLc aLn : Nat} {aP : Option Addr} {aPc aPn : Nat} {aD : Option Addr} {aDc aDn : Nat} {aN : Option Addr} {aNc aNn : Nat} {aS : Option Addr} {aSc aSn : Nat} {aI : Option Addr} {aIc aIn : Nat} {aG : Option Addr} {aGc aGn : Nat} {aB : Option Addr} {aBc aBn : Nat} {x : Sw.World} {eq : Sw.Req} {ea et ew : Int}
end
end Go.Proofs.YtnnoiagommiapaaGreat
namespace Go.Proofs.YtnnoiagommiapaaGreat
open Go.RowKit Go
set_option maxHeartbeats 4000000
section
variable {g lo : Nat} {τ0 τ : Nat → Nat} {w0 w : World} {aF : Option Addr} {aFc aFn : Nat} {aL : Option Addr} {aLc aLn : Nat} {aP : Option Addr} {aPc aPn : Nat} {aD : Option Addr} {aDc aDn : Nat} {aN : Option Addr} {aNc aNn : Nat} {aS : Option Addr} {aSc aSn : Nat} {aI : Option Addr} {aIc aIn : Nat} {aG : Option Addr} {aGc aGn : Nat} {aB : Option Addr} {aBc aBn : Nat} {x : Sw.World} {eq : Sw.Req} {ea et ew : Int}
end
end Go.Proofs.YtnnoiagommiapaaGreat
namespace Go.Proofs.YtnnoiagommiapaaGreat
open Go.RowKit Go
set_option maxHeartbeats 4000000
section
variable {g lo : Nat} {τ0 τ : Nat → Nat} {w0 w : World} {aF : Option Addr} {aFc aFn : Nat} {aL : Option Addr} {aLc aLn : Nat} {aP : Option Addr} {aPc aPn : Nat} {aD : Option Addr} {aDc aDn : Nat} {aN : Option Addr} {aNc aNn : Nat} {aS : Option Addr} {aSc aSn : Nat} {aI : Option Addr} {aIc aIn : Nat} {aG : Option Addr} {aGc aGn : Nat} {aB : Option Addr} {aBc aBn : Nat} {x : Sw.World} {eq : Sw.Req} {ea et ew : Int}
end
end Go.Proofs.YtnnoiagommiapaaGreat
namespace Go.Proofs.YtnnoiagommiapaaGreat
open Go.RowKit Go
set_option maxHeartbeats 4000000
section
variable {g lo : Nat} {τ0 τ : Nat → Nat} {w0 w : World} {aF : Option Addr} {aFc aFn : Nat} {aL : Option Addr} {aLc aLn : Nat} {aP : Option Addr} {aPc aPn : Nat} {aD : Option Addr} {aDc aDn : Nat} {aN : Option Addr} {aNc aNn : Nat} {aS : Option Addr} {aSc aSn : Nat} {aI : Option Addr} {aIc aIn : Nat} {aG : Option Addr} {aGc aGn : Nat} {aB : Option Addr} {aBc aBn : Nat} {x : Sw.World} {eq : Sw.Req} {ea et ew : Int}
end
end Go.Proofs.YtnnoiagommiapaaGreat
namespace Go.Proofs.YtnnoiagommiapaaGreat
open Go.RowKit Go
set_option maxHeartbeats 4000000
section
variable {g lo : Nat} {τ0 τ : Nat → Nat} {w0 w : World} {aF : Option Addr} {aFc aFn : Nat} {aL : Option Addr} {aLc aLn : Nat} {aP : Option Addr} {aPc aPn : Nat} {aD : Option Addr} {aDc aDn : Nat} {aN : Option Addr} {aNc aNn : Nat} {aS : Option Addr} {aSc aSn : Nat} {aI : Option Addr} {aIc aIn : Nat} {aG : Option Addr} {aGc aGn : Nat} {aB : Option Addr} {aBc aBn : Nat} {x : Sw.World} {eq : Sw.Req} {ea et ew : Int}
end
end Go.Proofs.YtnnoiagommiapaaGreat
namespace Go.Proofs.YtnnoiagommiapaaGreat
open Go.RowKit Go
set_option maxHeartbeats 8000000
section
variable {g lo : Nat} {τ0 τ : Nat → Nat} {w0 w : World} {aF : Option Addr} {aFc aFn : Nat} {aL : Option Addr} {aLc aLn : Nat} {aP : Option Addr} {aPc aPn : Nat} {aD : Option Addr} {aDc aDn : Nat} {aN : Option Addr} {aNc aNn : Nat} {aS : Option Addr} {aSc aSn : Nat} {aI : Option Addr} {aIc aIn : Nat} {aG : Option Addr} {aGc aGn : Nat} {aB : Option Addr} {aBc aBn : Nat} {x : Sw.World} {eq : Sw.Req} {ea et ew : Int}
end
end Go.Proofs.YtnnoiagommiapaaGreat
namespace Go.Proofs.YtnnoiagommiapaaGreat
open Go.RowKit Go
set_option maxHeartbeats 4000000
section
variable {g lo : Nat} {τ0 τ : Nat → Nat} {w0 w : World} {aF : Option Addr} {aFc aFn : Nat} {aL : Option Addr} {aLc aLn : Nat} {aP : Option Addr} {aPc aPn : Nat} {aD : Option Addr} {aDc aDn : Nat} {aN : Option Addr} {aNc aNn : Nat} {aS : Option Addr} {aSc aSn : Nat} {aI : Option Addr} {aIc aIn : Nat} {aG : Option Addr} {aGc aGn : Nat} {aB : Option Addr} {aBc aBn : Nat} {x : Sw.World} {eq : Sw.Req} {ea et ew : Int}
end
end Go.Proofs.YtnnoiagommiapaaGreat
namespace Go.Proofs.YtnnoiagommiapaaGreat
open Go.RowKit Go
set_option maxHeartbeats 4000000
theorem StepI.of {g lo : Nat} {τ0 : Nat → Nat} {w0 w' : World} {E : Ending} {n n' : Int} {z z' : Sw.World} (h : StepI g lo τ0 w0 w' E n z) (hn : n = n') (hz : z = z') : StepI g lo τ0 w0 w' E n' z' := by subst hn hz; exact h
section
variable {g lo : Nat} {τ0 τ : Nat → Nat} {w0 w : World} {aF : Option Addr} {aFc aFn : Nat} {aL : Option Addr} {aLc aLn : Nat} {aP : Option Addr} {aPc aPn : Nat} {aD : Option Addr} {aDc aDn : Nat} {aN : Option Addr} {aNc aNn : Nat} {aS : Option Addr} {aSc aSn : Nat} {aI : Option Addr} {aIc aIn : Nat} {aG : Option Addr} {aGc aGn : Nat} {aB : Option Addr} {aBc aBn : Nat} {x : Sw.World}
end
end Go.Proofs.YtnnoiagommiapaaGreat
namespace Go.Proofs.YtnnoiagommiapaaGreat
open Go.RowKit Go
set_option maxHeartbeats 4000000
theorem WS.start {g lo : Nat} {τ : Nat → Nat} {w : World} {aF : Option Addr} {aFc aFn : Nat} {aL : Option Addr} {aLc aLn : Nat} {aP : Option Addr} {aPc aPn : Nat} {aD : Option Addr} {aDc aDn : Nat} {aN : Option Addr} {aNc aNn : Nat} {aS : Option Addr} {aSc aSn : Nat} {aI : Option Addr} {aIc aIn : Nat} {aG : Option Addr} {aGc aGn : Nat} {aB : Option Addr} {aBc aBn : Nat} {x : Sw.World} (h : OwW fdL fpL τ w lo aF aFc aFn aL aLc aLn aP aPc aPn aD aDc aDn aN aNc aNn aS aSc aSn aI aIc aIn aG aGc aGn aB aBc aBn x) (hA : WAt w g aF aFc aFn aL aLc aLn aP aPc aPn aD aDc aDn aN aNc aNn aS aSc aSn aI aIc aIn aG aGc aGn aB aBc aBn x.market.clock) (hL : Lb w g 10) (hg : τ g = 0) (hlo : lo ≤ w.heap.size) : WS g lo τ w aF aFc aFn aL aLc aLn aP aPc aPn aD aDc aDn aN aNc aNn aS aSc aSn aI aIc aIn aG aGc aGn aB aBc aBn x τ w :=
 ⟨hA.c0, ⟨hA.lt, hA.c1, hA.c2, hA.c3, hA.c4, hA.c5, hA.c6, hA.free⟩, hA.c7, hA.c8, hA.c9, hL, h, fun _ _ => rfl, Ch.refl _ _, hA.lt, hg, hlo⟩
theorem WS.wat {g lo : Nat} {τ0 τ : Nat → Nat} {w0 w : World} {aF : Option Addr} {aFc aFn : Nat} {aL : Option Addr} {aLc aLn : Nat} {aP : Option Addr} {aPc aPn : Nat} {aD : Option Addr} {aDc aDn : Nat} {aN : Option Addr} {aNc aNn : Nat} {aS : Option Addr} {aSc aSn : Nat} {aI : Option Addr} {aIc aIn : Nat} {aG : Option Addr} {aGc aGn : Nat} {aB : Option Addr} {aBc aBn : Nat} {x : Sw.World} (h : WS g lo τ0 w0 aF aFc aFn aL aLc aLn aP aPc aPn aD aDc aDn aN aNc aNn aS aSc aSn aI aIc aIn aG aGc aGn aB aBc aBn x τ w) : WAt w g aF aFc aFn aL aLc aLn aP aPc aPn aD aDc aDn aN aNc aNn aS aSc aSn aI aIc aIn aG aGc aGn aB aBc aBn x.market.clock :=
 ⟨h.at_.lt, h.first, h.at_.log, h.at_.purses, h.at_.deals, h.at_.clk, h.at_.nums, h.at_.said, h.lines, h.gates, h.bag, h.at_.free⟩
set_option maxHeartbeats 4000000
structure ExH (a b : World) : Prop where
 out : Ex a b
set_option maxHeartbeats 2000000
structure QAt (w : World) (g : Nat) (r : Sw.Req) : Prop where
 lt : g < w.heap.size
 c0 : w.cell? ⟨g, 0, none⟩ = some (.int .i64 r.user)
 c1 : w.cell? ⟨g, 1, none⟩ = some (.int .i64 r.n)
 c2 : w.cell? ⟨g, 2, none⟩ = some (.int .i64 r.kind)
 c3 : w.cell? ⟨g, 3, none⟩ = some (.int .i64 r.ticket)
 c4 : w.cell? ⟨g, 4, none⟩ = some (.int .i64 r.who)
 c5 : w.cell? ⟨g, 5, none⟩ = some (.int .i64 r.price)
 free : ∀ i, w.frozen? ⟨g, i, none⟩ = false
set_option maxHeartbeats 2000000
end Go.Proofs.YtnnoiagommiapaaGreat

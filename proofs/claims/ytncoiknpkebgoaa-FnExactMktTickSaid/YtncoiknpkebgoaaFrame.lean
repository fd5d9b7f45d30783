/-
  The frame: a law that says true of any input and turns nothing.
-/
import Derived.Test.YtncoiknpkebgoaaBase
import Derived.Test.YtncoiknpkebgoaaTyped
import Derived.Carry
import Derived.WalkKit
import Derived.ProofKit
import Derived.ChangeSame
import Derived.OpenShut
import Derived.ChangeSlices
import Derived.Deep.Slices
namespace Go.Proofs.Ytncoiknpkebgoaa
set_option maxRecDepth 100000
set_option linter.unusedSimpArgs false
set_option linter.unusedVariables false
open Go.ChangeShapes Go.WideShapes Go.ChangeAt Go.RowKit Go

section
variable {H : Type} {enc : TypeId × Value → H} {P : Program}
theorem trodAll_stays (hl : laidOutB P = true) {W W' : World} {sp : Nat → Bool} (hb : Below W.heap.size W W') : ∀ {ts : List TypeId} {vs : List Value} {ds : List (DataW H)} {ps : List MemPlace},
    ts.all (fun t => P.readableRec t && decide (t < P.types.size)) = true → DataW.TrodAll enc P W 0 (fun _ => true) true ts vs ds ps → (∀ x ∈ ps, x.block < W.heap.size) → (∀ x ∈ ps, sp x.block = true) →
    DataW.TrodAll enc P W' 0 sp true ts vs ds ps
  | [], [], [], _, _, h, _, _ => h
  | t :: ts, v :: vs, d :: ds, _, hr, ⟨p, q, h1, h2, e⟩, hlt, hs => by
    simp only [List.all_cons, Bool.and_eq_true, decide_eq_true_eq] at hr
    subst e
    refine ⟨p, q, ?_, trodAll_stays hl hb hr.2 h2 (fun x hx => hlt x (List.mem_append_right _ hx)) (fun x hx => hs x (List.mem_append_right _ hx)), rfl⟩
    exact WideElems.Trod_stays hl hr.1.1 hr.1.2 h1 (fun x hx => hb.same (hlt x (List.mem_append_left _ hx))) (fun x hx => hs x (List.mem_append_left _ hx))

/-- A call that returns true and turns nothing that was there is what a law's statement asks. -/
theorem law_post {f : Func} {s : ChangeSpec} {apart fresh handsOn again : Bool} {W W' : World} {args : Array Value} {ds gs : List (DataW H)} {before : List MemPlace} {tb : TypeId}
    (hl : laidOutB P = true) (hr : f.params.toList.all (fun t => P.readableRec t && decide (t < P.types.size)) = true) (hres : f.resultTypes = #[tb]) (htb : P.underlying tb = some .bool) (hv : s.vars = [])
    (hfn : (s.fn H ds).results = [.lit (.bool true)] ∧ (s.fn H ds).args = ds ∧ (s.fn H ds).vars = [])
    (hW : DataW.Whole enc P f.params.toList s.vars apart W args.toList ds gs before) (hb : Ex W W') : s.post enc P f apart fresh handsOn again W args (.bool true) W' := by
  have hW0 := hW
  have hbl := hb.below
  have hlt : ∀ p ∈ before, p.block < W.heap.size := fun p hp => by simpa using hW.lt p hp
  obtain ⟨p, q, hA, hV, he, hz, hn⟩ := hW
  rw [hv] at hV
  obtain ⟨rfl, rfl⟩ := trodVars_none hV
  rw [List.append_nil] at he
  subst he
  obtain ⟨f1, f2, f3⟩ := hfn
  have hargs : ∀ sp : Nat → Bool, (∀ x ∈ before, sp x.block = true) → DataW.TrodAll enc P W' 0 sp true f.params.toList args.toList (s.fn H (ds ++ [])).args before := fun sp hs => by
    rw [List.append_nil, f2]
    exact trodAll_stays hl hbl hr hA hlt hs
  have hvars : ∀ sp : Nat → Bool, DataW.TrodVars enc P W' sp s.vars (s.fn H (ds ++ [])).vars [] := fun sp => by
    rw [List.append_nil, f3, hv]
    rfl
  have hresu : ∀ (b : Nat) (sp : Nat → Bool) (hd : Bool), DataW.TrodAll enc P W' b sp hd f.resultTypes.toList ((Value.bool true).resultList f.resultTypes.size) (s.fn H (ds ++ [])).results [] := fun b sp hd => by
    rw [List.append_nil, f1, hres]
    exact trodAll_cons_mk (shut_bool htb _) trodAll_mk0
  have hold : ∀ p ∈ before, (fun b => decide (b < W.heap.size)) p.block = true := fun p hp => by simpa using hlt p hp
  refine ⟨ds, [], before, [], before, [], hW0, hresu _ _ _, hargs _ hold, hvars _, World.keptBut_mono (fun p hp => ⟨hp, Or.inr (by simpa using hp)⟩) (hbl.frame _), fun _ => ?_⟩
  refine ⟨ok_one (by rw [hres]) rfl (okWide_bool_mk htb _), _, _, ([] ++ before) ++ [], ⟨[] ++ before, [], trodAll_append (hargs _ (fun _ _ => rfl)) (hresu _ _ _), hvars _, rfl, ?_, ?_⟩, ?_⟩
  · intro b off hp
    have hp' : MemPlace.cell b off ∈ before := by simpa using hp
    rw [hbl.frozen (by exact hlt _ hp')]
    exact hz b off (by simpa using hp)
  · intro ha
    have := hn ha
    simpa using this
  · intro p hp _
    simpa using hp

theorem spot_of_cell {W : World} {a : Addr} {v : Value} (h : W.cell? a = some v) : a.spot = none ∧ a.block < W.heap.size := by
  unfold World.cell? at h
  split at h
  · rename_i c T fz hh
    refine ⟨?_, (Array.getElem?_eq_some_iff.1 hh).1⟩
    cases hs : a.spot with
    | none => rfl
    | some _ => rw [hs] at h; simp at h
  · cases h

theorem flat_one {α : Type} {f : α → Value} (xs : List α) : xs.flatMap (fun x => [f x]) = xs.map f := by
  induction xs with
  | nil => rfl
  | cons x xs ih => rw [List.flatMap_cons, ih]; rfl

/-- A slice of numbers that reads is one that may be read. -/
theorem ri_of_trod {W : World} {t e : TypeId} {fuel : Nat} {cs : List Value} {x : DataW H × List MemPlace} (ht : P.underlying t = some (.slice e)) (he : P.underlying e = some (.int .i64)) (hc : P.cellsOf e = 1)
    (h : DataW.trod enc P W 0 (fun _ => true) true fuel t cs = some x) : ∃ A c n xs, cs = [.slice A n c] ∧ RI W 0 A c n xs := by
  rcases open_ints ht he hc h with ⟨rfl, _⟩ | ⟨a, len, cap, zs, rfl, _, hl, hm, hz, _, hcell, _⟩
  · exact ⟨none, 0, 0, [], rfl, rfl, Rd.none_ _ _ _⟩
  · have hz' : zs.length = cap := by simpa using hz
    refine ⟨some a, cap, len, zs.take len, rfl, by rw [List.length_take]; omega, ⟨?_, hl, hm, (fun h => by cases h), fun b hb hn => ?_⟩⟩
    · show ((zs.take len).flatMap fun x => [Value.int .i64 x]).length = len * 1
      rw [flat_one, List.length_map, List.length_take]; omega
    · obtain rfl := Option.some.inj hb
      have h0 := spot_of_cell (hcell 0 (by omega))
      refine ⟨?_, Nat.zero_le _, ?_, fun j u hu => ?_⟩
      · have := h0.1
        simp only [Addr.add] at this
        split at this <;> first | exact this | contradiction | omega
      · have := h0.2
        simp only [Addr.add] at this
        split at this <;> first | exact this | contradiction | omega
      replace hu : ((zs.take len).flatMap fun x => [Value.int .i64 x])[j]? = some u := hu
      rw [flat_one, List.getElem?_map, Option.map_eq_some_iff] at hu
      obtain ⟨y, hy, rfl⟩ := hu
      rw [List.getElem?_take] at hy
      split at hy
      · have hj := (List.getElem?_eq_some_iff.1 hy).1
        have := hcell j hj
        rw [List.getD_eq_getElem?_getD, hy] at this
        obtain ⟨g, off, spot⟩ := a
        have hs : spot = none := by
          have := h0.1
          simp only [Addr.add] at this
          split at this <;> first | exact this | contradiction | omega
        subst hs
        rw [Addr.add_lit] at this
        exact this
      · cases hy

/-- A head that reads is three numbers. -/
theorem head_of_trod {W : World} {t ti : TypeId} {f0 f1 f2 : Field} {fuel : Nat} {cs : List Value} {x : DataW H × List MemPlace} (ht : P.underlying t = some (.struct #[f0, f1, f2])) (hi : P.underlying ti = some (.int .i64)) (hci : P.cellsOf ti = 1) (hct : P.cellsOf t = 3)
    (e0 : f0.type = ti ∧ f0.offset = 0) (e1 : f1.type = ti ∧ f1.offset = 1) (e2 : f2.type = ti ∧ f2.offset = 2)
    (h : DataW.trod enc P W 0 (fun _ => true) true fuel t cs = some x) : ∃ a b c : Int, cs = [.int .i64 a, .int .i64 b, .int .i64 c] := by
  obtain ⟨xs, n, _, _, hl, hxl, hf⟩ := DataW.trod_struct ht h
  rw [hct] at hl
  have key : ∀ (i : Nat) (f : Field), #[f0, f1, f2][i]? = some f → f.type = ti → ∃ a : Int, (cs.drop f.offset).take 1 = [.int .i64 a] := by
    intro i f hfi hft
    have h1 := hf i f hfi
    have hx : i < xs.length := by
      have := (Array.getElem?_eq_some_iff.1 hfi).1
      rw [hxl]; exact this
    rw [hft, hci, List.getElem?_eq_getElem hx] at h1
    obtain ⟨a, ha, _⟩ := DataW.trod_int hi h1
    exact ⟨a, ha⟩
  match cs, hl with
  | [c0, c1, c2], _ =>
    obtain ⟨a, ha⟩ := key 0 f0 rfl e0.1
    obtain ⟨b, hb⟩ := key 1 f1 rfl e1.1
    obtain ⟨c, hc⟩ := key 2 f2 rfl e2.1
    rw [e0.2] at ha
    rw [e1.2] at hb
    rw [e2.2] at hc
    simp at ha hb hc
    exact ⟨a, b, c, by rw [ha, hb, hc]⟩

/-- A gate that reads is a head and a slice of numbers. -/
theorem gate_of_trod {W : World} {t th ts ti : TypeId} {f0 f1 h0 h1 h2 : Field} {fuel : Nat} {cs : List Value} {x : DataW H × List MemPlace} (ht : P.underlying t = some (.struct #[f0, f1])) (hth : P.underlying th = some (.struct #[h0, h1, h2])) (hts : P.underlying ts = some (.slice ti)) (hi : P.underlying ti = some (.int .i64))
    (hci : P.cellsOf ti = 1) (hch : P.cellsOf th = 3) (hcs : P.cellsOf ts = 1) (hct : P.cellsOf t = 4)
    (e0 : f0.type = th ∧ f0.offset = 0) (e1 : f1.type = ts ∧ f1.offset = 3) (g0 : h0.type = ti ∧ h0.offset = 0) (g1 : h1.type = ti ∧ h1.offset = 1) (g2 : h2.type = ti ∧ h2.offset = 2)
    (h : DataW.trod enc P W 0 (fun _ => true) true fuel t cs = some x) : ∃ (a b c : Int) (A : Option Addr) (d n : Nat) (zs : List Int), cs = [.int .i64 a, .int .i64 b, .int .i64 c, .slice A n d] ∧ RI W 0 A d n zs := by
  obtain ⟨xs, n, _, _, hl, hxl, hf⟩ := DataW.trod_struct ht h
  rw [hct] at hl
  have k0 := hf 0 f0 rfl
  have k1 := hf 1 f1 rfl
  rw [e0.1, e0.2, hch, List.getElem?_eq_getElem (by rw [hxl]; exact Nat.zero_lt_succ _)] at k0
  rw [e1.1, e1.2, hcs, List.getElem?_eq_getElem (by rw [hxl]; exact Nat.one_lt_two)] at k1
  obtain ⟨a, b, c, q0⟩ := head_of_trod hth hi hci hch g0 g1 g2 k0
  obtain ⟨A, d, m, zs, q1, hr⟩ := ri_of_trod hts hi hci k1
  match cs, hl with
  | [c0, c1, c2, c3], _ =>
    simp at q0 q1
    obtain ⟨rfl, rfl, rfl⟩ := q0
    exact ⟨_, _, _, A, d, m, zs, by rw [q1], hr⟩

theorem slice_form {W : World} {base : Nat} {t e : TypeId} {v : Value} {A : Option Addr} {n c : Nat} (ht : P.underlying t = some (.slice e)) (hv : Value.okWide P W .any base t v) (h : v.cells.toList = [.slice A n c]) : v = .slice A n c := by
  unfold Value.okWide at hv
  rw [ht] at hv
  unfold Cell.okWide Cell.ok at hv
  rw [ht] at hv
  cases v <;> simp_all [Value.cells]
end
end Go.Proofs.Ytncoiknpkebgoaa

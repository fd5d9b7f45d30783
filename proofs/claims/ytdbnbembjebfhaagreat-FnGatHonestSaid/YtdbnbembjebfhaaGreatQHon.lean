/-
  Walks: what the law GatHonest calls and draws.
-/
import Derived.Test.YtdbnbembjebfhaaGreatPz29
import Derived.Test.YtdbnbembjebfhaaGreatPz47
import Derived.Test.YtdbnbembjebfhaaGreatPz34
import Derived.Test.YtdbnbembjebfhaaGreatPz48
import Derived.Test.YtdbnbembjebfhaaGreatPz49
namespace Go.Proofs.YtdbnbembjebfhaaGreat
set_option maxRecDepth 100000
set_option linter.unusedSimpArgs false
set_option linter.unusedVariables false
open Go.RowKit Go
set_option maxHeartbeats 2000000

theorem iGatShow_v (t1 t2 t3 k who r1 r2 : Int) (r3 : Bool) (v1 v2 v3 : Int) (A : Option Addr) (c n : Nat) (xs : List Int) (B : Option Addr) (d m : Nat) (ps zs : List Int) (b : Bool) (w : World) (hxs : RI w 0 A c n xs) (hps : RI w 0 B d m ps) (he : Sw.gatShow ⟨⟨t1, t2, t3⟩, xs⟩ k who ⟨r1, r2, r3⟩ ps = (⟨⟨v1, v2, v3⟩, zs⟩, b)) :
    Calls Tryz.prog 12 #[.agg #[.int .i64 t1, .int .i64 t2, .int .i64 t3, .slice A n c], .int .i64 k, .int .i64 who, .agg #[.int .i64 r1, .int .i64 r2, .bool r3], .slice B m d] w fun E w' => ∃ A' c' n', E = .returned (.tuple #[.agg #[.int .i64 v1, .int .i64 v2, .int .i64 v3, .slice A' n' c'], .bool b]) ∧ OwI w' w.heap.size A' c' n' zs ∧ Ex w w' := by
  have := iGatShow_c ⟨t1, t2, t3⟩ A c n xs k who ⟨r1, r2, r3⟩ B d m ps w hxs hps
  rw [he] at this
  exact this
theorem swLeaves_c (A : Option Addr) (c n : Nat) (xs : List Sw.Row) (w : World) (hxs : RR w 0 A c n xs) (hn : n ≤ 4194304) : Calls Tryz.prog 16 #[.slice A n c] w fun E w' => ∃ A' c', E = .returned (.slice A' n c') ∧ OwI w' w.heap.size A' c' n (Sw.ownLeaves xs) ∧ Ex w w' := by
  have hl := Lib.hid hxs.1
  go_enter Tryz.func16, Tryz.ntmps16
  go_wp2_with fail
  go_loopw [3, 4] (fun o i wr => ∃ (k : Nat) (B : Option Addr) (d : Nat), k ≤ n ∧ i = .int .i64 k ∧ o = .slice B k d ∧ Ex w wr ∧ OwI wr w.heap.size B d k (Sw.ownLeaves (xs.take k))) (fun _ i _ => n - (intOf i).toNat)
  case atStart => exact ⟨0, _, 0, Nat.zero_le _, rfl, rfl, ext_, Ow.new [] rfl rfl rfl (fun _ => rfl) (Nat.le_refl _) (by omega)⟩
  case round =>
    obtain ⟨k, B, d, hk, rfl, rfl, hb, ho⟩ := hrel
    have hst := Ex.rules hb rfl
    obtain ⟨hc, hf, hz⟩ := hst
    by_cases hlt : k < n
    · obtain ⟨g, off, y, rfl, hg0, hg, hd, hy, hc0, hc1, hc2⟩ := at_R hxs hlt
      have Hy := Lib.hid hy; clear hd hy
      go_wp2_with (first | (go_at_call 14; refine (iOwnLeaf_c _ _ _).mono ?_; rintro E w1 ⟨rfl, hb⟩; have hst := xr hb; (try simp only [zA, zC, zD, zN] at hst); obtain ⟨hc, hf, hz⟩ := hst) | (at_builtin; apply wpList_app (lo := w.heap.size) el_I one_I rfl rfl rfl rfl; (first | assumption | exact Ow.nil _ _ | (apply Ow.keep; assumption; exact kf_) | (refine Ow.new [] (by (first | rfl | (simp only [zA, zC, zD, zN]; done) | omega)) rfl rfl (fun _ => rfl) (by exact sz_) (by omega))); (first | (refine Rs.new [Sw.ownLeaf k y] (by (first | rfl | (simp only [zA, zC, zD, zN]; done) | omega)) rfl rfl (fun _ => rfl) (by omega))); omega; exact sz_; intro A1 c1 w2 ho1 hch1 hat1 hex1 hlow1; have hb := hex1 (fun _ => False) w (by exact ext_) (by exact sz_); have hz := hch1.size; (try simp only [zA, zC, zD, zN] at hz); obtain ⟨hc, hf⟩ := low_rules hlow1; clear hlow1 hex1))
      go_roundw
      case rel =>
        refine ⟨k + 1, A1, c1, by omega, by go_num, rfl, hb, ?_⟩
        rw [take_snoc Hy.out]
        unfold Sw.ownLeaves at ho1 ⊢
        rw [leavesFrom_snoc, List.length_take, Nat.min_eq_left (by have := hl.out; omega), Int.zero_add]
        exact ho1
      case measure => simp [intOf]; omega
    · go_wp2_with fail
      go_ret
      obtain rfl : k = n := by omega
      refine ⟨_, _, rfl, ?_, ext_⟩
      rw [List.take_of_length_le (by have := hl.out; omega)] at ho
      exact ho

theorem iMixPair_c (a b : Int) (w : World) : Calls Tryz.prog 17 #[.int .i64 a, .int .i64 b] w fun E w' => E = .returned (.int .i64 (Sw.mixPair a b)) ∧ Ex w w' := by
  unfold Sw.mixPair
  cases g1 : Sw.mixOk a <;> cases g2 : Sw.mixOk b
  all_goals go_enter Tryz.func17, Tryz.ntmps17
  all_goals go_wp2_with (first | (go_at_call 48; refine (iMixOk_c _ _).mono ?_; rintro E w' ⟨rfl, rfl⟩) | (go_at_call 66; apply Calls.mono; apply pair_c; exact g1; exact g2; rintro E w' ⟨rfl, rfl⟩))
  all_goals go_ret
  all_goals exact ⟨rfl, ext_⟩
theorem drawHedOf_c (A0 : Option Addr) (c0 n0 : Nat) (bs : List Int) (w : World) (hxs : RB w 0 A0 c0 n0 bs) (hq : ∀ x ∈ bs, 0 ≤ x ∧ x ≤ 255) : Calls Tryz.prog 6 #[.slice A0 n0 c0] w fun E w' => ∃ (A : Option Addr) (c m : Nat) (es : List Sw.Ent), E = .returned (.slice A m c) ∧ RE w' 0 A c m es ∧ Ex w w' := by
  go_enter Tryz.func6, Tryz.ntmps6
  go_wp2_with fail
  apply Calls.mono
  apply l20Open_c
  · apply Rs.at0 hxs; (exact kf_)
  · exact hq
  rintro E w1 ⟨rb, rfl, hrd, hrb, hb⟩
  have hst := xr hb; (try simp only [zA, zC, zD, zN] at hst); obtain ⟨hc, hf, hz⟩ := hst
  have hlt := hrd.lt
  go_wp2_with fail
  apply Calls.mono
  apply l20Log_c
  · apply Rdp.keep hrd; (exact kb_)
  · omega
  · omega
  · omega
  rintro E w2 ⟨A, c, m, xs, rfl, hes, hm, hrd, hb⟩
  (have hst := xc hb; (try simp only [zA, zC, zD, zN] at hst); obtain ⟨hc, hf, hz⟩ := hst)
  go_wp2_with fail
  go_ret
  exact ⟨_, _, _, xs, rfl, (hes.keep kf_).less (Nat.zero_le _), ext_⟩
end Go.Proofs.YtdbnbembjebfhaaGreat


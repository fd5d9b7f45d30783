/- Texts joined: PtrG, PtrH. -/
import Derived.Test.YtgaflnpmilikcaaGreatPx5
import Derived.Test.YtgaflnpmilikcaaGreatPx31
import Derived.Test.YtgaflnpmilikcaaGreatPx23
import Derived.Deep.CutBlock
import Derived.Deep.DeepCutAuto
set_option maxRecDepth 100000
set_option linter.unusedSimpArgs false
set_option linter.unusedVariables false
namespace Go.Proofs.YtgaflnpmilikcaaGreat
open Go.RowKit Go
set_option maxHeartbeats 8000000
theorem H6 (aL:Option Addr) (Ae AU:Nat) (aP:Option Addr) (Ag AY:Nat) (aD:Option Addr) (Ac AQ:Nat) (aN:Option Addr) (Ad Aa:Nat) (aS:Option Addr) (Af Ab:Nat) (m:Sw.CV) (rows:List Sw.Row) (t:Nat) (w:World) (hL:RE w 0 aL Ae AU m.log) (hf:Sw.Bq m.log=some rows) (ht:t<8):Calls Tryz.prog 32 #[.agg #[.slice aL AU Ae,.slice aP AY Ag,.slice aD AQ Ac,.int .i64 m.clock,.slice aN Aa Ad,.slice aS Ab Af]] w fun E w'=>∃ g c,E=.returned (.slice (some ⟨g,0,none⟩) 8 c)∧(PQ w' w.heap.size (some ⟨g,0,none⟩) c 8 rows∧w.heap.size≤g∧g<w'.heap.size∧w'.cell? ⟨g,t*3,none⟩=some (.int .i64 (Sw.rowAt rows t).who)∧w'.cell? ⟨g,t*3+1,none⟩=some (.int .i64 (Sw.rowAt rows t).EY)∧w'.cell? ⟨g,t*3+2,none⟩=some (.bool (Sw.rowAt rows t).used))∧Ex w w':=by
 refine (XL aL Ae AU aP Ag AY aD Ac AQ aN Ad Aa aS Af Ab m w hL).mono ?_
 rintro E w' ⟨A',c',n',rfl,ho,hb⟩
 rw[Sw.Cu hf] at ho
 have h8:=Sw.Ct (Sw.Bv hf)
 obtain rfl:n'=8:=by rw[ho.1,h8]
 obtain⟨g,x,rfl,hlo,hlt,hx,c0,c1,c2,hfz⟩:=ND ho ht
 have e:Sw.rowAt rows t=x:=by unfold Sw.rowAt;rw[Int.toNat_natCast];exact Sw.CP hx
 rw[e]
 exact⟨g,c',rfl,⟨ho,hlo,hlt,c0,c1,c2⟩,hb⟩
section
variable {g o n lo:Nat} {τ0 τ:Nat→Nat} {w0 w:World} {aL aP aD aN aS:Option Addr} {Ae AU Ag AY Ac AQ Ad Aa Af Ab:Nat} {m:Sw.CV}
def KX (g o n lo:Nat) (τ0:Nat→Nat) (w0 w':World) (E:Ending) (x:Sw.CV × Int):Prop:=∃ (bL:Option Addr) (Bg BR:Nat) (bP:Option Addr) (Bf BV:Nat) (bD:Option Addr) (Bh Ba:Nat) (bN:Option Addr) (Bd Bb:Nat) (bS:Option Addr) (Bc BZ:Nat) (τ':Nat→Nat),E=.returned (.int .i64 x.2)∧MS g o n lo τ0 w0 bL Bg BR bP Bf BV bD Bh Ba bN Bd Bb bS Bc BZ x.1 τ' w'
theorem V_ (hS:MS g o n lo τ0 w0 aL Ae AU aP Ag AY aD Ac AQ aN Ad Aa aS Af Ab m τ w) (ru rn:Int) (t:Nat) (rh rp:Int) {rows:List Sw.Row} (hok:Sw.IL m rows) (ht:t<8) (hu1:1≤ru) (aT:ru≤5):Calls Tryz.prog 124 #[.pointer (some ⟨g,o,none⟩),.agg #[.int .i64 ru,.int .i64 rn,.int .i64 1,.int .i64 t,.int .i64 rh,.int .i64 rp]] w fun E w'=>
  KX g o n lo τ0 w0 w' E (Sw.issue m ⟨ru,rn,1,t,rh,rp⟩ (Sw.rowAt rows t)):=by
 have hSw:=hS
 obtain⟨k0,k1,k2,k3,k4,k5,k6,kf⟩:=hS.at_
 have HS:=Lib.hid hS
 have Fu:=hS.ow.log.ow.rs
 have Yc:=hS.ow.AJ.ow.rs
 have hpn:AY≤4194304:=by have:=hS.ow.Ai.ow.1;have:=(Sw.Ci.1 hok.Rp).1;omega
 have HL:=Lib.hid (Sw.B_.1 hok.fold).1
 have HO:=Lib.hid hok.fold
 have HK:=Lib.hid hok
 have i0:(0:Int)≤(t:Int):=by omega
 have i1:(t:Int)<8:=by omega
 obtain⟨ai,hat⟩:∃ z,z=Sw.FB m.AJ t:=⟨_,rfl⟩
 have HA:=Lib.hid hat
 clear hS hSw hok hat
 go_enter Tryz.func124,Tryz.ntmps124
 go_upto_region 1 with fail
 go_cut [5] (fun p wx=>∃ gb:Nat,p=.pointer (some ⟨gb,0,none⟩)∧w.heap.size+1≤gb∧gb<wx.heap.size∧wx.cell? ⟨gb,0,none⟩=some (.int .i64 (Sw.rowAt rows t).who)∧wx.cell? ⟨gb,1,none⟩=some (.int .i64 (Sw.rowAt rows t).EY)∧wx.cell? ⟨gb,2,none⟩=some (.bool (Sw.rowAt rows t).used)∧Ex (w.alloc (.cells #[.int .i64 ru,.int .i64 rn,.int .i64 1,.int .i64 t,.int .i64 rh,.int .i64 rp] 45)) wx)
 case first=>
  (focus (refine CF fun W0 hb0 hc0 hf0 hz0=>?_;refine Aj [] (S:=fun w'=>Held W0 w') DC (fun hHeld=>?_);(repeat' (first|refine FQ [7] [] hHeld (h:=?_)|refine FW (fun K hK=>?_) ?_|refine FV ?_|exact Cf|refine FT (fun K hK=>?_) ?_|(revert hK;intro hK;go_simp;(try ((go_at_call 32;apply Calls.mono;apply (H6 (rows:=rows) (t:=t));(apply Rs.A8 Fu;(exact AO));exact HO.out;exact ht;rintro E w1 ⟨gr,dr,rfl,⟨Gr,FY,hgR,q0,q1,q2⟩,hb⟩;obtain⟨hc,hf,hz⟩:=xy hb);(try go_wp2_with fail)));refine CQ hK DC (h:=?_);clear hK K hHeld;intro hHeld)));all_goals (refine FR ?_);all_goals (obtain⟨hb,hc,hf,hz⟩:=xh (by assumption:Held W0 _))))
  all_goals go_wp2_with fail
  all_goals go_meet
  all_goals exact⟨_,rfl,Aq,Aq,Ak,Ak,Ak,AA⟩
 case rest=>
  obtain⟨gb,rfl,QQ,Zd,q0,q1,q2,hb⟩:=hcut
  obtain⟨hc,hf,hz⟩:=xy hb
  go_wp2_with fail
  (refine CF fun W0 hb0 hc0 hf0 hz0=>?_;refine wp_region_held_drew (S:=fun w'=>Held W0 w') (by kernel_rfl) ?_ (fun hHeld=>?_);(focus ((try dsimp only);(exact FU)));refine rT 0 16 (h:=?_);refine rT 1 17 (h:=?_);refine rT 2 18 (h:=?_);refine rT 3 19 (h:=?_);refine rT 4 20 (h:=?_);refine wpAnyH_ready (rs:=[5]) (by kernel_rfl) (by simp) ?_;refine AllReadyH.cons rfl (fun K hK=>?_) ?_;rotate_left;(focus exact AllReadyH.nil);go_simp;(go_at_call 78;apply Calls.mono;apply KS;(apply Rs.A8 Yc;(exact AO));rintro E w2 ⟨rfl,hb⟩;rw[← HA.out];obtain⟨hc,hf,hz⟩:=xy hb);(try go_wp2_with fail);refine hK.out _ _ ?_ (fun hHeld=>?_);(focus ((try dsimp only);(exact FU)));clear hK K;(try simp only[Act.put,DN]);refine rT 6 6 (h:=?_);refine wpAnyH_done (by kernel_rfl) ?_ _;all_goals (obtain⟨hb,hc,hf,hz⟩:=xh (by assumption:Held W0 _)))
  all_goals go_wp2_with fail
  apply Calls.mono
  apply (ZM (HS.out.ex AA) ru rn t rh rp (Sw.rowAt rows t) HL.out hpn)
  rintro E w5 ⟨bL,Bg,BR,bP,Bf,BV,bD,Bh,Ba,bN,Bd,Bb,bS,Bc,BZ,τ5,rfl,dx⟩
  go_wp2
  go_ret
  exact⟨_,_,_,_,_,_,_,_,_,_,_,_,_,_,_,τ5,rfl,dx⟩
theorem V7 (hS:MS g o n lo τ0 w0 aL Ae AU aP Ag AY aD Ac AQ aN Ad Aa aS Af Ab m τ w) (ru rn:Int) (t:Nat) (rh rp:Int) {rows:List Sw.Row} (hok:Sw.IL m rows) (ht:t<8) (hu1:1≤ru) (aT:ru≤5):Calls Tryz.prog 124 #[.pointer (some ⟨g,o,none⟩),.agg #[.int .i64 ru,.int .i64 rn,.int .i64 4,.int .i64 t,.int .i64 rh,.int .i64 rp]] w fun E w'=>
  KX g o n lo τ0 w0 w' E (Sw.Gf m ⟨ru,rn,4,t,rh,rp⟩ (Sw.BH m.AJ t)):=by
 have hSw:=hS
 obtain⟨k0,k1,k2,k3,k4,k5,k6,kf⟩:=hS.at_
 have HS:=Lib.hid hS
 have Fu:=hS.ow.log.ow.rs
 have Yc:=hS.ow.AJ.ow.rs
 have hpn:AY≤4194304:=by have:=hS.ow.Ai.ow.1;have:=(Sw.Ci.1 hok.Rp).1;omega
 have HL:=Lib.hid (Sw.B_.1 hok.fold).1
 have HO:=Lib.hid hok.fold
 have HK:=Lib.hid hok
 have i0:(0:Int)≤(t:Int):=by omega
 have i1:(t:Int)<8:=by omega
 obtain⟨ai,hat⟩:∃ z,z=Sw.FB m.AJ t:=⟨_,rfl⟩
 have HA:=Lib.hid hat
 clear hS hSw hok hat
 go_enter Tryz.func124,Tryz.ntmps124
 go_upto_region 1 with fail
 go_cut [5] (fun p wx=>∃ gb:Nat,p=.pointer (some ⟨gb,0,none⟩)∧w.heap.size+1≤gb∧gb<wx.heap.size∧wx.cell? ⟨gb,0,none⟩=some (.int .i64 (Sw.rowAt rows t).who)∧wx.cell? ⟨gb,1,none⟩=some (.int .i64 (Sw.rowAt rows t).EY)∧wx.cell? ⟨gb,2,none⟩=some (.bool (Sw.rowAt rows t).used)∧Ex (w.alloc (.cells #[.int .i64 ru,.int .i64 rn,.int .i64 4,.int .i64 t,.int .i64 rh,.int .i64 rp] 45)) wx)
 case first=>
  (focus (refine CF fun W0 hb0 hc0 hf0 hz0=>?_;refine Aj [] (S:=fun w'=>Held W0 w') DC (fun hHeld=>?_);(repeat' (first|refine FQ [7] [] hHeld (h:=?_)|refine FW (fun K hK=>?_) ?_|refine FV ?_|exact Cf|refine FT (fun K hK=>?_) ?_|(revert hK;intro hK;go_simp;(try ((go_at_call 32;apply Calls.mono;apply (H6 (rows:=rows) (t:=t));(apply Rs.A8 Fu;(exact AO));exact HO.out;exact ht;rintro E w1 ⟨gr,dr,rfl,⟨Gr,FY,hgR,q0,q1,q2⟩,hb⟩;obtain⟨hc,hf,hz⟩:=xy hb);(try go_wp2_with fail)));refine CQ hK DC (h:=?_);clear hK K hHeld;intro hHeld)));all_goals (refine FR ?_);all_goals (obtain⟨hb,hc,hf,hz⟩:=xh (by assumption:Held W0 _))))
  all_goals go_wp2_with fail
  all_goals go_meet
  all_goals exact⟨_,rfl,Aq,Aq,Ak,Ak,Ak,AA⟩
 case rest=>
  obtain⟨gb,rfl,QQ,Zd,q0,q1,q2,hb⟩:=hcut
  obtain⟨hc,hf,hz⟩:=xy hb
  go_wp2_with fail
  (refine CF fun W0 hb0 hc0 hf0 hz0=>?_;refine wp_region_held_drew (S:=fun w'=>Held W0 w') (by kernel_rfl) ?_ (fun hHeld=>?_);(focus ((try dsimp only);(exact FU)));refine rT 0 16 (h:=?_);refine rT 1 17 (h:=?_);refine rT 2 18 (h:=?_);refine rT 3 19 (h:=?_);refine rT 4 20 (h:=?_);refine wpAnyH_ready (rs:=[5]) (by kernel_rfl) (by simp) ?_;refine AllReadyH.cons rfl (fun K hK=>?_) ?_;rotate_left;(focus exact AllReadyH.nil);go_simp;(go_at_call 78;apply Calls.mono;apply KS;(apply Rs.A8 Yc;(exact AO));rintro E w2 ⟨rfl,hb⟩;rw[← HA.out];obtain⟨hc,hf,hz⟩:=xy hb);(try go_wp2_with fail);refine hK.out _ _ ?_ (fun hHeld=>?_);(focus ((try dsimp only);(exact FU)));clear hK K;(try simp only[Act.put,DN]);refine rT 6 6 (h:=?_);refine wpAnyH_done (by kernel_rfl) ?_ _;all_goals (obtain⟨hb,hc,hf,hz⟩:=xh (by assumption:Held W0 _)))
  all_goals go_wp2_with fail
  rw[HA.out]
  apply Calls.mono
  apply (dW (HS.out.ex AA) ru rn 4 t rh rp HK.out hu1 aT)
  rintro E w5 ⟨bL,Bg,BR,bP,Bf,BV,bD,Bh,Ba,bN,Bd,Bb,bS,Bc,BZ,τ5,rfl,dx⟩
  go_wp2
  go_ret
  exact⟨_,_,_,_,_,_,_,_,_,_,_,_,_,_,_,τ5,rfl,dx⟩
theorem V6 (hS:MS g o n lo τ0 w0 aL Ae AU aP Ag AY aD Ac AQ aN Ad Aa aS Af Ab m τ w) (ru rn:Int) (t:Nat) (rh rp:Int) {rows:List Sw.Row} (hok:Sw.IL m rows) (ht:t<8) (hu1:1≤ru) (aT:ru≤5):Calls Tryz.prog 124 #[.pointer (some ⟨g,o,none⟩),.agg #[.int .i64 ru,.int .i64 rn,.int .i64 5,.int .i64 t,.int .i64 rh,.int .i64 rp]] w fun E w'=>
  KX g o n lo τ0 w0 w' E (Sw.settle m ⟨ru,rn,5,t,rh,rp⟩ (Sw.BH m.AJ t)):=by
 have hSw:=hS
 obtain⟨k0,k1,k2,k3,k4,k5,k6,kf⟩:=hS.at_
 have HS:=Lib.hid hS
 have Fu:=hS.ow.log.ow.rs
 have Yc:=hS.ow.AJ.ow.rs
 have hpn:AY≤4194304:=by have:=hS.ow.Ai.ow.1;have:=(Sw.Ci.1 hok.Rp).1;omega
 have HL:=Lib.hid (Sw.B_.1 hok.fold).1
 have HO:=Lib.hid hok.fold
 have HK:=Lib.hid hok
 have i0:(0:Int)≤(t:Int):=by omega
 have i1:(t:Int)<8:=by omega
 obtain⟨ai,hat⟩:∃ z,z=Sw.FB m.AJ t:=⟨_,rfl⟩
 have HA:=Lib.hid hat
 clear hS hSw hok hat
 go_enter Tryz.func124,Tryz.ntmps124
 go_upto_region 1 with fail
 go_cut [5] (fun p wx=>∃ gb:Nat,p=.pointer (some ⟨gb,0,none⟩)∧w.heap.size+1≤gb∧gb<wx.heap.size∧wx.cell? ⟨gb,0,none⟩=some (.int .i64 (Sw.rowAt rows t).who)∧wx.cell? ⟨gb,1,none⟩=some (.int .i64 (Sw.rowAt rows t).EY)∧wx.cell? ⟨gb,2,none⟩=some (.bool (Sw.rowAt rows t).used)∧Ex (w.alloc (.cells #[.int .i64 ru,.int .i64 rn,.int .i64 5,.int .i64 t,.int .i64 rh,.int .i64 rp] 45)) wx)
 case first=>
  (focus (refine CF fun W0 hb0 hc0 hf0 hz0=>?_;refine Aj [] (S:=fun w'=>Held W0 w') DC (fun hHeld=>?_);(repeat' (first|refine FQ [7] [] hHeld (h:=?_)|refine FW (fun K hK=>?_) ?_|refine FV ?_|exact Cf|refine FT (fun K hK=>?_) ?_|(revert hK;intro hK;go_simp;(try ((go_at_call 32;apply Calls.mono;apply (H6 (rows:=rows) (t:=t));(apply Rs.A8 Fu;(exact AO));exact HO.out;exact ht;rintro E w1 ⟨gr,dr,rfl,⟨Gr,FY,hgR,q0,q1,q2⟩,hb⟩;obtain⟨hc,hf,hz⟩:=xy hb);(try go_wp2_with fail)));refine CQ hK DC (h:=?_);clear hK K hHeld;intro hHeld)));all_goals (refine FR ?_);all_goals (obtain⟨hb,hc,hf,hz⟩:=xh (by assumption:Held W0 _))))
  all_goals go_wp2_with fail
  all_goals go_meet
  all_goals exact⟨_,rfl,Aq,Aq,Ak,Ak,Ak,AA⟩
 case rest=>
  obtain⟨gb,rfl,QQ,Zd,q0,q1,q2,hb⟩:=hcut
  obtain⟨hc,hf,hz⟩:=xy hb
  go_wp2_with fail
  (refine CF fun W0 hb0 hc0 hf0 hz0=>?_;refine wp_region_held_drew (S:=fun w'=>Held W0 w') (by kernel_rfl) ?_ (fun hHeld=>?_);(focus ((try dsimp only);(exact FU)));refine rT 0 16 (h:=?_);refine rT 1 17 (h:=?_);refine rT 2 18 (h:=?_);refine rT 3 19 (h:=?_);refine rT 4 20 (h:=?_);refine wpAnyH_ready (rs:=[5]) (by kernel_rfl) (by simp) ?_;refine AllReadyH.cons rfl (fun K hK=>?_) ?_;rotate_left;(focus exact AllReadyH.nil);go_simp;(go_at_call 78;apply Calls.mono;apply KS;(apply Rs.A8 Yc;(exact AO));rintro E w2 ⟨rfl,hb⟩;rw[← HA.out];obtain⟨hc,hf,hz⟩:=xy hb);(try go_wp2_with fail);refine hK.out _ _ ?_ (fun hHeld=>?_);(focus ((try dsimp only);(exact FU)));clear hK K;(try simp only[Act.put,DN]);refine rT 6 6 (h:=?_);refine wpAnyH_done (by kernel_rfl) ?_ _;all_goals (obtain⟨hb,hc,hf,hz⟩:=xh (by assumption:Held W0 _)))
  all_goals go_wp2_with fail
  rw[HA.out]
  apply Calls.mono
  apply (Xy (HS.out.ex AA) ru rn 5 t rh rp HK.out)
  rintro E w5 ⟨bL,Bg,BR,bP,Bf,BV,bD,Bh,Ba,bN,Bd,Bb,bS,Bc,BZ,τ5,rfl,dx⟩
  go_wp2
  go_ret
  exact⟨_,_,_,_,_,_,_,_,_,_,_,_,_,_,_,τ5,rfl,dx⟩
end
end Go.Proofs.YtgaflnpmilikcaaGreat
namespace Go.Proofs.YtgaflnpmilikcaaGreat
open Go.RowKit Go
set_option maxHeartbeats 8000000
section
variable {g o n lo:Nat} {τ0 τ:Nat→Nat} {w0 w:World} {aL aP aD aN aS:Option Addr} {Ae AU Ag AY Ac AQ Ad Aa Af Ab:Nat} {m:Sw.CV}
theorem V8 (hS:MS g o n lo τ0 w0 aL Ae AU aP Ag AY aD Ac AQ aN Ad Aa aS Af Ab m τ w) (ru rn:Int) (t:Nat) (rh rp:Int) {rows:List Sw.Row} (hok:Sw.IL m rows) (ht:t<8) (hu1:1≤ru) (aT:ru≤5):Calls Tryz.prog 124 #[.pointer (some ⟨g,o,none⟩),.agg #[.int .i64 ru,.int .i64 rn,.int .i64 3,.int .i64 t,.int .i64 rh,.int .i64 rp]] w fun E w'=>
  KX g o n lo τ0 w0 w' E (Sw.ED m ⟨ru,rn,3,t,rh,rp⟩ (Sw.rowAt rows t) (Sw.BH m.AJ t)):=by
 have hSw:=hS
 obtain⟨k0,k1,k2,k3,k4,k5,k6,kf⟩:=hS.at_
 have HS:=Lib.hid hS
 have Fu:=hS.ow.log.ow.rs
 have Yc:=hS.ow.AJ.ow.rs
 have hpn:AY≤4194304:=by have:=hS.ow.Ai.ow.1;have:=(Sw.Ci.1 hok.Rp).1;omega
 have HL:=Lib.hid (Sw.B_.1 hok.fold).1
 have HO:=Lib.hid hok.fold
 have HK:=Lib.hid hok
 have i0:(0:Int)≤(t:Int):=by omega
 have i1:(t:Int)<8:=by omega
 obtain⟨ai,hat⟩:∃ z,z=Sw.FB m.AJ t:=⟨_,rfl⟩
 have HA:=Lib.hid hat
 clear hS hSw hok hat
 go_enter Tryz.func124,Tryz.ntmps124
 go_upto_region 1 with fail
 go_cut [5] (fun p wx=>∃ gb:Nat,p=.pointer (some ⟨gb,0,none⟩)∧w.heap.size+1≤gb∧gb<wx.heap.size∧wx.cell? ⟨gb,0,none⟩=some (.int .i64 (Sw.rowAt rows t).who)∧wx.cell? ⟨gb,1,none⟩=some (.int .i64 (Sw.rowAt rows t).EY)∧wx.cell? ⟨gb,2,none⟩=some (.bool (Sw.rowAt rows t).used)∧Ex (w.alloc (.cells #[.int .i64 ru,.int .i64 rn,.int .i64 3,.int .i64 t,.int .i64 rh,.int .i64 rp] 45)) wx)
 case first=>
  (focus (refine CF fun W0 hb0 hc0 hf0 hz0=>?_;refine Aj [] (S:=fun w'=>Held W0 w') DC (fun hHeld=>?_);(repeat' (first|refine FQ [7] [] hHeld (h:=?_)|refine FW (fun K hK=>?_) ?_|refine FV ?_|exact Cf|refine FT (fun K hK=>?_) ?_|(revert hK;intro hK;go_simp;(try ((go_at_call 32;apply Calls.mono;apply (H6 (rows:=rows) (t:=t));(apply Rs.A8 Fu;(exact AO));exact HO.out;exact ht;rintro E w1 ⟨gr,dr,rfl,⟨Gr,FY,hgR,q0,q1,q2⟩,hb⟩;obtain⟨hc,hf,hz⟩:=xy hb);(try go_wp2_with fail)));refine CQ hK DC (h:=?_);clear hK K hHeld;intro hHeld)));all_goals (refine FR ?_);all_goals (obtain⟨hb,hc,hf,hz⟩:=xh (by assumption:Held W0 _))))
  all_goals go_wp2_with fail
  all_goals go_meet
  all_goals exact⟨_,rfl,Aq,Aq,Ak,Ak,Ak,AA⟩
 case rest=>
  obtain⟨gb,rfl,QQ,Zd,q0,q1,q2,hb⟩:=hcut
  obtain⟨hc,hf,hz⟩:=xy hb
  go_wp2_with fail
  (refine CF fun W0 hb0 hc0 hf0 hz0=>?_;refine wp_region_held_drew (S:=fun w'=>Held W0 w') (by kernel_rfl) ?_ (fun hHeld=>?_);(focus ((try dsimp only);(exact FU)));refine rT 0 16 (h:=?_);refine rT 1 17 (h:=?_);refine rT 2 18 (h:=?_);refine rT 3 19 (h:=?_);refine rT 4 20 (h:=?_);refine wpAnyH_ready (rs:=[5]) (by kernel_rfl) (by simp) ?_;refine AllReadyH.cons rfl (fun K hK=>?_) ?_;rotate_left;(focus exact AllReadyH.nil);go_simp;(go_at_call 78;apply Calls.mono;apply KS;(apply Rs.A8 Yc;(exact AO));rintro E w2 ⟨rfl,hb⟩;rw[← HA.out];obtain⟨hc,hf,hz⟩:=xy hb);(try go_wp2_with fail);refine hK.out _ _ ?_ (fun hHeld=>?_);(focus ((try dsimp only);(exact FU)));clear hK K;(try simp only[Act.put,DN]);refine rT 6 6 (h:=?_);refine wpAnyH_done (by kernel_rfl) ?_ _;all_goals (obtain⟨hb,hc,hf,hz⟩:=xh (by assumption:Held W0 _)))
  all_goals clear HK hpn HL HO Fu
  by_cases h1:(Sw.rowAt rows t).who=ru
  case neg=>
   have g1:((Sw.rowAt rows t).who==ru)=false:=by simpa using h1
   have e:Sw.ED m ⟨ru,rn,3,t,rh,rp⟩ (Sw.rowAt rows t) (Sw.BH m.AJ t)=(m,2):=by unfold Sw.ED;rw[if_pos h1]
   have He:=Lib.hid e;clear e h1
   go_wp2_with fail
   go_ret
   rw[He.out]
   exact⟨_,_,_,_,_,_,_,_,_,_,_,_,_,_,_,τ,rfl,HS.out.ex AA⟩
  have g1:((Sw.rowAt rows t).who==ru)=true:=by simpa using h1
  cases h3:Sw.BH m.AJ t
  case none=>
   have e:Sw.ED m ⟨ru,rn,3,t,rh,rp⟩ (Sw.rowAt rows t) (Sw.BH m.AJ t)=(m,3):=by rw[h3];unfold Sw.ED;rw[if_neg (by simpa using h1)]
   have He:=Lib.hid e
   obtain rfl:ai = -1:=HA.out.trans (EJ h3)
   clear e h1 h3
   go_wp2_with fail
   go_ret
   rw[He.out]
   exact⟨_,_,_,_,_,_,_,_,_,_,_,_,_,_,_,τ,rfl,HS.out.ex AA⟩
  rename_i kd
  obtain⟨d,hd,hdt⟩:=Sw.Dc h3
  have hk:kd<AQ:=by have:=HS.out.ow.AJ.ow.1;have:=(List.getElem?_eq_some_iff.1 hd).1;omega
  obtain rfl:ai=(kd:Int):=HA.out.trans (EI h3)
  have hgd:=Sw.CP (z:=Sw.EE) hd
  obtain⟨gD,y,rfl,R4,Ur,hy,d0,d1,d2,d3,d4,aW⟩:=MX HS.out.ow.AJ.ow hk
  obtain rfl:y=d:=Option.some.inj (hy.symm.trans hd)
  have j0:(0:Int)≤(kd:Int):=by omega
  have j1:(kd:Int)<(AQ:Int):=by omega
  have j2:¬(kd:Int)<0:=by omega
  cases hh:Sw.held y
  case true=>
   have e:Sw.ED m ⟨ru,rn,3,t,rh,rp⟩ (Sw.rowAt rows t) (Sw.BH m.AJ t)=(m,3):=by rw[h3];unfold Sw.ED;rw[if_neg (by simpa using h1)];dsimp only;rw[hgd,if_pos hh]
   have He:=Lib.hid e
   clear e h1 h3 hd hdt hy hgd
   go_wp2_with (go_at_call 120;apply Calls.mono;apply (F7 y);rintro E w4 ⟨rfl,hb⟩;rw[hh];obtain⟨hc,hf,hz⟩:=xy hb)
   go_ret
   rw[He.out]
   exact⟨_,_,_,_,_,_,_,_,_,_,_,_,_,_,_,τ,rfl,HS.out.ex AA⟩
  have e:Sw.ED m ⟨ru,rn,3,t,rh,rp⟩ (Sw.rowAt rows t) (Sw.BH m.AJ t)=({ m with AJ:=m.AJ.eraseIdx kd },1):=by rw[h3];unfold Sw.ED;rw[if_neg (by simpa using h1)];dsimp only;rw[hgd,if_neg (by simp[hh])]
  have He:=Lib.hid e
  clear e h1 h3 hd hdt hy hgd
  go_wp2_with (go_at_call 120;apply Calls.mono;apply (F7 y);rintro E w4 ⟨rfl,hb⟩;rw[hh];obtain⟨hc,hf,hz⟩:=xy hb)
  apply Calls.mono
  apply (SY (HS.out.ex AA) hk)
  rintro E w5 ⟨τ5,rfl,dx⟩
  go_wp2
  go_ret
  rw[He.out]
  exact⟨_,_,_,_,_,_,_,_,_,_,_,_,_,_,_,τ5,rfl,dx⟩
theorem V5 (hS:MS g o n lo τ0 w0 aL Ae AU aP Ag AY aD Ac AQ aN Ad Aa aS Af Ab m τ w) (ru rn:Int) (t:Nat) (rh rp:Int) {rows:List Sw.Row} (hok:Sw.IL m rows) (ht:t<8) (hu1:1≤ru) (aT:ru≤5):Calls Tryz.prog 124 #[.pointer (some ⟨g,o,none⟩),.agg #[.int .i64 ru,.int .i64 rn,.int .i64 6,.int .i64 t,.int .i64 rh,.int .i64 rp]] w fun E w'=>
  KX g o n lo τ0 w0 w' E (Sw.enter m ⟨ru,rn,6,t,rh,rp⟩ (Sw.rowAt rows t) (Sw.BH m.AJ t)):=by
 have hSw:=hS
 obtain⟨k0,k1,k2,k3,k4,k5,k6,kf⟩:=hS.at_
 have HS:=Lib.hid hS
 have Fu:=hS.ow.log.ow.rs
 have Yc:=hS.ow.AJ.ow.rs
 have hpn:AY≤4194304:=by have:=hS.ow.Ai.ow.1;have:=(Sw.Ci.1 hok.Rp).1;omega
 have HL:=Lib.hid (Sw.B_.1 hok.fold).1
 have HO:=Lib.hid hok.fold
 have HK:=Lib.hid hok
 have i0:(0:Int)≤(t:Int):=by omega
 have i1:(t:Int)<8:=by omega
 obtain⟨ai,hat⟩:∃ z,z=Sw.FB m.AJ t:=⟨_,rfl⟩
 have HA:=Lib.hid hat
 clear hS hSw hok hat
 go_enter Tryz.func124,Tryz.ntmps124
 go_upto_region 1 with fail
 go_cut [5] (fun p wx=>∃ gb:Nat,p=.pointer (some ⟨gb,0,none⟩)∧w.heap.size+1≤gb∧gb<wx.heap.size∧wx.cell? ⟨gb,0,none⟩=some (.int .i64 (Sw.rowAt rows t).who)∧wx.cell? ⟨gb,1,none⟩=some (.int .i64 (Sw.rowAt rows t).EY)∧wx.cell? ⟨gb,2,none⟩=some (.bool (Sw.rowAt rows t).used)∧Ex (w.alloc (.cells #[.int .i64 ru,.int .i64 rn,.int .i64 6,.int .i64 t,.int .i64 rh,.int .i64 rp] 45)) wx)
 case first=>
  (focus (refine CF fun W0 hb0 hc0 hf0 hz0=>?_;refine Aj [] (S:=fun w'=>Held W0 w') DC (fun hHeld=>?_);(repeat' (first|refine FQ [7] [] hHeld (h:=?_)|refine FW (fun K hK=>?_) ?_|refine FV ?_|exact Cf|refine FT (fun K hK=>?_) ?_|(revert hK;intro hK;go_simp;(try ((go_at_call 32;apply Calls.mono;apply (H6 (rows:=rows) (t:=t));(apply Rs.A8 Fu;(exact AO));exact HO.out;exact ht;rintro E w1 ⟨gr,dr,rfl,⟨Gr,FY,hgR,q0,q1,q2⟩,hb⟩;obtain⟨hc,hf,hz⟩:=xy hb);(try go_wp2_with fail)));refine CQ hK DC (h:=?_);clear hK K hHeld;intro hHeld)));all_goals (refine FR ?_);all_goals (obtain⟨hb,hc,hf,hz⟩:=xh (by assumption:Held W0 _))))
  all_goals go_wp2_with fail
  all_goals go_meet
  all_goals exact⟨_,rfl,Aq,Aq,Ak,Ak,Ak,AA⟩
 case rest=>
  obtain⟨gb,rfl,QQ,Zd,q0,q1,q2,hb⟩:=hcut
  obtain⟨hc,hf,hz⟩:=xy hb
  go_wp2_with fail
  (refine CF fun W0 hb0 hc0 hf0 hz0=>?_;refine wp_region_held_drew (S:=fun w'=>Held W0 w') (by kernel_rfl) ?_ (fun hHeld=>?_);(focus ((try dsimp only);(exact FU)));refine rT 0 16 (h:=?_);refine rT 1 17 (h:=?_);refine rT 2 18 (h:=?_);refine rT 3 19 (h:=?_);refine rT 4 20 (h:=?_);refine wpAnyH_ready (rs:=[5]) (by kernel_rfl) (by simp) ?_;refine AllReadyH.cons rfl (fun K hK=>?_) ?_;rotate_left;(focus exact AllReadyH.nil);go_simp;(go_at_call 78;apply Calls.mono;apply KS;(apply Rs.A8 Yc;(exact AO));rintro E w2 ⟨rfl,hb⟩;rw[← HA.out];obtain⟨hc,hf,hz⟩:=xy hb);(try go_wp2_with fail);refine hK.out _ _ ?_ (fun hHeld=>?_);(focus ((try dsimp only);(exact FU)));clear hK K;(try simp only[Act.put,DN]);refine rT 6 6 (h:=?_);refine wpAnyH_done (by kernel_rfl) ?_ _;all_goals (obtain⟨hb,hc,hf,hz⟩:=xh (by assumption:Held W0 _)))
  all_goals clear HK hpn HO Fu
  have l1:=Lib.hid HS.out.ow.log.ow.1
  by_cases h1:(Sw.rowAt rows t).who=ru
  case neg=>
   have g1:((Sw.rowAt rows t).who==ru)=false:=by simpa using h1
   have e:Sw.enter m ⟨ru,rn,6,t,rh,rp⟩ (Sw.rowAt rows t) (Sw.BH m.AJ t)=(m,2):=by unfold Sw.enter;rw[if_pos h1]
   have He:=Lib.hid e;clear e h1
   go_wp2_with fail
   go_ret
   rw[He.out]
   exact⟨_,_,_,_,_,_,_,_,_,_,_,_,_,_,_,τ,rfl,HS.out.ex AA⟩
  have g1:((Sw.rowAt rows t).who==ru)=true:=by simpa using h1
  cases h2:(Sw.rowAt rows t).used
  case true=>
   have e:Sw.enter m ⟨ru,rn,6,t,rh,rp⟩ (Sw.rowAt rows t) (Sw.BH m.AJ t)=(m,3):=by unfold Sw.enter;rw[if_neg (by simpa using h1),if_pos (.inl h2)]
   have He:=Lib.hid e
   rw[h2] at q2
   clear e h1 h2
   go_wp2_with fail
   go_ret
   rw[He.out]
   exact⟨_,_,_,_,_,_,_,_,_,_,_,_,_,_,_,τ,rfl,HS.out.ex AA⟩
  have H2:=Lib.hid h2
  rw[h2] at q2
  cases h3:Sw.BH m.AJ t
  case some kd=>
   have e:Sw.enter m ⟨ru,rn,6,t,rh,rp⟩ (Sw.rowAt rows t) (Sw.BH m.AJ t)=(m,3):=by rw[h3];unfold Sw.enter;rw[if_neg (by simpa using h1),if_pos (.inr rfl)]
   have He:=Lib.hid e
   obtain rfl:ai=(kd:Int):=HA.out.trans (EI h3)
   have j0:(0:Int)≤(kd:Int):=by omega
   clear e h1 h3 h2
   go_wp2_with fail
   go_ret
   rw[He.out]
   exact⟨_,_,_,_,_,_,_,_,_,_,_,_,_,_,_,τ,rfl,HS.out.ex AA⟩
  obtain rfl:ai = -1:=HA.out.trans (EJ h3)
  by_cases h4:m.log.length=40
  ·have e:Sw.enter m ⟨ru,rn,6,t,rh,rp⟩ (Sw.rowAt rows t) (Sw.BH m.AJ t)=(m,6):=by rw[h3];unfold Sw.enter;rw[if_neg (by simpa using h1),if_neg (by simp[h2]),if_pos h4]
   have He:=Lib.hid e
   have QF:AU=40:=by have:=l1.out;omega
   clear e h1 h3 h2 h4
   go_wp2_with (go_at_call 160;apply Calls.mono;apply (RO (HS.out.ex AA) 3 t ru 0 QF);rintro E w4 ⟨rfl,hb⟩;obtain⟨hc,hf,hz⟩:=xy hb)
   go_ret
   rw[He.out]
   exact⟨_,_,_,_,_,_,_,_,_,_,_,_,_,_,_,τ,rfl,HS.out.ex AA⟩
  have e:Sw.enter m ⟨ru,rn,6,t,rh,rp⟩ (Sw.rowAt rows t) (Sw.BH m.AJ t)=({ m with log:=m.log ++ [⟨3,t,ru,0⟩] },1):=by rw[h3];unfold Sw.enter;rw[if_neg (by simpa using h1),if_neg (by simp[h2]),if_neg h4]
  have He:=Lib.hid e
  have Uq:AU<40:=by have:=l1.out;have:=HL.out;omega
  clear e h1 h3 h2 h4
  go_wp2_with fail
  apply Calls.mono
  apply (Pd (HS.out.ex AA) 3 t ru 0 Uq)
  rintro E w5 ⟨A5,c5,τ5,rfl,dx⟩
  go_wp2
  go_ret
  rw[He.out]
  exact⟨_,_,_,_,_,_,_,_,_,_,_,_,_,_,_,τ5,rfl,dx⟩
end
end Go.Proofs.YtgaflnpmilikcaaGreat

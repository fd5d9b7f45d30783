/- Texts joined: VAt, DrT, SwW, LawV. -/
import Derived.Test.YtgaflnpmilikcaaGreatPx60
import Derived.Test.YtgaflnpmilikcaaGreatPx51
import Derived.Test.YtgaflnpmilikcaaGreatPx11
import Derived.Test.YtgaflnpmilikcaaGreatPx41
import Derived.Test.YtgaflnpmilikcaaGreatPx50
set_option maxRecDepth 100000
set_option linter.unusedSimpArgs false
set_option linter.unusedVariables false
namespace Go.Proofs.YtgaflnpmilikcaaGreat
open Go.RowKit Go
structure K_ (w:World) (g:Nat) (e:Sw.Ev):Prop where
 lt:g<w.heap.size
 c0:w.cell? ⟨g,0,none⟩=some (.int .i64 e.kind)
 c1:w.cell? ⟨g,1,none⟩=some (.int .i64 e.EK.user)
 c2:w.cell? ⟨g,2,none⟩=some (.int .i64 e.EK.n)
 c3:w.cell? ⟨g,3,none⟩=some (.int .i64 e.EK.kind)
 c4:w.cell? ⟨g,4,none⟩=some (.int .i64 e.EK.ticket)
 c5:w.cell? ⟨g,5,none⟩=some (.int .i64 e.EK.who)
 c6:w.cell? ⟨g,6,none⟩=some (.int .i64 e.EK.Al)
 c7:w.cell? ⟨g,7,none⟩=some (.int .i64 e.at_)
 c8:w.cell? ⟨g,8,none⟩=some (.int .i64 e.ticket)
 c9:w.cell? ⟨g,9,none⟩=some (.int .i64 e.who)
 free:∀ i,w.frozen? ⟨g,i,none⟩=false
theorem Fw.new {w:World} {g:Nat} {aF aL aP aD aN aS aI aG aB:Option Addr} {BD A_ Ae AU Ag AY Ac AQ Ad Aa Af Ab BF A7 BA Az aBc Ao:Nat} {clock:Int} (lt:g<w.heap.size:=by exact Aq)
  (c0:w.cell? ⟨g,0,none⟩=some (.slice aF A_ BD):=by exact Ak)
  (c1:w.cell? ⟨g,1,none⟩=some (.slice aL AU Ae):=by exact Ak)
  (c2:w.cell? ⟨g,2,none⟩=some (.slice aP AY Ag):=by exact Ak)
  (c3:w.cell? ⟨g,3,none⟩=some (.slice aD AQ Ac):=by exact Ak)
  (c4:w.cell? ⟨g,4,none⟩=some (.int .i64 clock):=by exact Ak)
  (c5:w.cell? ⟨g,5,none⟩=some (.slice aN Aa Ad):=by exact Ak)
  (c6:w.cell? ⟨g,6,none⟩=some (.slice aS Ab Af):=by exact Ak)
  (c7:w.cell? ⟨g,7,none⟩=some (.slice aI A7 BF):=by exact Ak)
  (c8:w.cell? ⟨g,8,none⟩=some (.slice aG Az BA):=by exact Ak)
  (c9:w.cell? ⟨g,9,none⟩=some (.slice aB Ao aBc):=by exact Ak)
  (free:∀ i,w.frozen? ⟨g,i,none⟩=false:=by intro i;(go_simp;first|done|simp[*])):Fw w g aF BD A_ aL Ae AU aP Ag AY aD Ac AQ aN Ad Aa aS Af Ab aI BF A7 aG BA Az aB aBc Ao clock:=⟨lt,c0,c1,c2,c3,c4,c5,c6,c7,c8,c9,free⟩
theorem K_.new {w:World} {g:Nat} {e:Sw.Ev} (lt:g<w.heap.size:=by exact Aq)
  (c0:w.cell? ⟨g,0,none⟩=some (.int .i64 e.kind):=by exact Ak)
  (c1:w.cell? ⟨g,1,none⟩=some (.int .i64 e.EK.user):=by exact Ak)
  (c2:w.cell? ⟨g,2,none⟩=some (.int .i64 e.EK.n):=by exact Ak)
  (c3:w.cell? ⟨g,3,none⟩=some (.int .i64 e.EK.kind):=by exact Ak)
  (c4:w.cell? ⟨g,4,none⟩=some (.int .i64 e.EK.ticket):=by exact Ak)
  (c5:w.cell? ⟨g,5,none⟩=some (.int .i64 e.EK.who):=by exact Ak)
  (c6:w.cell? ⟨g,6,none⟩=some (.int .i64 e.EK.Al):=by exact Ak)
  (c7:w.cell? ⟨g,7,none⟩=some (.int .i64 e.at_):=by exact Ak)
  (c8:w.cell? ⟨g,8,none⟩=some (.int .i64 e.ticket):=by exact Ak)
  (c9:w.cell? ⟨g,9,none⟩=some (.int .i64 e.who):=by exact Ak)
  (free:∀ i,w.frozen? ⟨g,i,none⟩=false:=by intro i;(go_simp;first|done|simp[*])):K_ w g e:=⟨lt,c0,c1,c2,c3,c4,c5,c6,c7,c8,c9,free⟩
theorem Fw.ex {w w':World} {g:Nat} {aF aL aP aD aN aS aI aG aB:Option Addr} {BD A_ Ae AU Ag AY Ac AQ Ad Aa Af Ab BF A7 BA Az aBc Ao:Nat} {clock:Int} (h:Fw w g aF BD A_ aL Ae AU aP Ag AY aD Ac AQ aN Ad Aa aS Af Ab aI BF A7 aG BA Az aB aBc Ao clock) (hb:Ex w w':=by exact AA):Fw w' g aF BD A_ aL Ae AU aP Ag AY aD Ac AQ aN Ad Aa aS Af Ab aI BF A7 aG BA Az aB aBc Ao clock:=h.keep (hb.block g h.lt (fun h=>h)) hb.size
theorem K_.keep {w w':World} {g:Nat} {e:Sw.Ev} (h:K_ w g e) (hk:w'.heap[g]?=w.heap[g]?) (hz:w.heap.size≤w'.heap.size):K_ w' g e:=by
 have hc:∀ i,w'.cell? ⟨g,i,none⟩=w.cell? ⟨g,i,none⟩:=fun i=>World.cell?_of_block (w:=w) (a:=⟨g,i,none⟩) hk
 exact⟨Nat.lt_of_lt_of_le h.lt hz,(hc _).trans h.c0,(hc _).trans h.c1,(hc _).trans h.c2,(hc _).trans h.c3,(hc _).trans h.c4,(hc _).trans h.c5,(hc _).trans h.c6,(hc _).trans h.c7,(hc _).trans h.c8,(hc _).trans h.c9,fun i=>(World.frozen?_of_block (w:=w) (a:=⟨g,i,none⟩) hk).trans (h.free i)⟩
theorem K_.ex {w w':World} {g:Nat} {e:Sw.Ev} (h:K_ w g e) (hb:Ex w w':=by exact AA):K_ w' g e:=h.keep (hb.block g h.lt (fun h=>h)) hb.size
set_option maxHeartbeats 20000000
def mq (w w2:World) (rb gb ge P:Nat) (dF:Option Addr) (GL F8:Nat) (dL:Option Addr) (Ep Ec:Nat) (dP:Option Addr) (Eo Eg:Nat) (dD:Option Addr) (Er Ed:Nat) (dN:Option Addr) (Ej Eb:Nat) (dS:Option Addr) (Ei Ea:Nat) (dI:Option Addr) (GJ Fj:Nat) (dG:Option Addr) (GK Fv:Nat) (dB:Option Addr) (GN Fq:Nat) (z:Sw.World) (wx:World):Prop:=
 ∃ e:Sw.Ev,K_ wx ge e∧Fw wx gb dF GL F8 dL Ep Ec dP Eo Eg dD Er Ed dN Ej Eb dS Ei Ea dI GJ Fj dG GK Fv dB GN Fq z.AB.clock∧KF (rb+1) w2 wx∧Lb wx w.heap.size 10∧Lb wx (w.heap.size+1) 10∧Be wx rb P∧Ch (· = rb) w wx
abbrev QV (gb ge:Nat) (dF:Option Addr) (GL F8:Nat) (dL:Option Addr) (Ep Ec:Nat) (dP:Option Addr) (Eo Eg:Nat) (dD:Option Addr) (Er Ed:Nat) (dN:Option Addr) (Ej Eb:Nat) (dS:Option Addr) (Ei Ea:Nat) (dI:Option Addr) (GJ Fj:Nat) (dG:Option Addr) (GK Fv:Nat) (dB:Option Addr) (GN Fq:Nat) (ck:Int) (e:Sw.Ev) (w:World):Prop:=
 (gb<w.heap.size∧ge<w.heap.size)∧w.cell? ⟨gb,0,none⟩=some (.slice dF F8 GL)∧w.cell? ⟨gb,1,none⟩=some (.slice dL Ec Ep)∧w.cell? ⟨gb,2,none⟩=some (.slice dP Eg Eo)∧w.cell? ⟨gb,3,none⟩=some (.slice dD Ed Er)∧w.cell? ⟨gb,4,none⟩=some (.int .i64 ck)∧w.cell? ⟨gb,5,none⟩=some (.slice dN Eb Ej)∧w.cell? ⟨gb,6,none⟩=some (.slice dS Ea Ei)∧w.cell? ⟨gb,7,none⟩=some (.slice dI Fj GJ)∧w.cell? ⟨gb,8,none⟩=some (.slice dG Fv GK)∧w.cell? ⟨gb,9,none⟩=some (.slice dB Fq GN)∧w.cell? ⟨ge,0,none⟩=some (.int .i64 e.kind)∧w.cell? ⟨ge,1,none⟩=some (.int .i64 e.EK.user)∧w.cell? ⟨ge,2,none⟩=some (.int .i64 e.EK.n)∧w.cell? ⟨ge,3,none⟩=some (.int .i64 e.EK.kind)∧w.cell? ⟨ge,4,none⟩=some (.int .i64 e.EK.ticket)∧w.cell? ⟨ge,5,none⟩=some (.int .i64 e.EK.who)∧w.cell? ⟨ge,6,none⟩=some (.int .i64 e.EK.Al)∧w.cell? ⟨ge,7,none⟩=some (.int .i64 e.at_)∧w.cell? ⟨ge,8,none⟩=some (.int .i64 e.ticket)∧w.cell? ⟨ge,9,none⟩=some (.int .i64 e.who)
theorem QV.of {gb ge:Nat} {dF dL dP dD dN dS dI dG dB:Option Addr} {GL F8 Ep Ec Eo Eg Er Ed Ej Eb Ei Ea GJ Fj GK Fv GN Fq:Nat} {ck:Int} {e:Sw.Ev} {w:World} (hA:Fw w gb dF GL F8 dL Ep Ec dP Eo Eg dD Er Ed dN Ej Eb dS Ei Ea dI GJ Fj dG GK Fv dB GN Fq ck) (hV:K_ w ge e):QV gb ge dF GL F8 dL Ep Ec dP Eo Eg dD Er Ed dN Ej Eb dS Ei Ea dI GJ Fj dG GK Fv dB GN Fq ck e w:=
 ⟨⟨hA.lt,hV.lt⟩,hA.c0,hA.c1,hA.c2,hA.c3,hA.c4,hA.c5,hA.c6,hA.c7,hA.c8,hA.c9,hV.c0,hV.c1,hV.c2,hV.c3,hV.c4,hV.c5,hV.c6,hV.c7,hV.c8,hV.c9⟩
theorem QV.keep {gb ge:Nat} {dF dL dP dD dN dS dI dG dB:Option Addr} {GL F8 Ep Ec Eo Eg Er Ed Ej Eb Ei Ea GJ Fj GK Fv GN Fq:Nat} {ck:Int} {e:Sw.Ev} {w w':World} (h:QV gb ge dF GL F8 dL Ep Ec dP Eo Eg dD Er Ed dN Ej Eb dS Ei Ea dI GJ Fj dG GK Fv dB GN Fq ck e w) (hz:w.heap.size≤w'.heap.size) (k1:w'.heap[gb]?=w.heap[gb]?) (k2:w'.heap[ge]?=w.heap[ge]?):QV gb ge dF GL F8 dL Ep Ec dP Eo Eg dD Er Ed dN Ej Eb dS Ei Ea dI GJ Fj dG GK Fv dB GN Fq ck e w':=by
 have e1:∀ i,w'.cell? ⟨gb,i,none⟩=w.cell? ⟨gb,i,none⟩:=fun i=>World.cell?_of_block (w:=w) (a:=⟨gb,i,none⟩) k1
 have e2:∀ i,w'.cell? ⟨ge,i,none⟩=w.cell? ⟨ge,i,none⟩:=fun i=>World.cell?_of_block (w:=w) (a:=⟨ge,i,none⟩) k2
 obtain⟨⟨h1,h2⟩,a0,a1,a2,a3,a4,a5,a6,a7,a8,a9,b0,b1,b2,b3,b4,b5,b6,b7,b8,b9⟩:=h
 exact⟨⟨Nat.lt_of_lt_of_le h1 hz,Nat.lt_of_lt_of_le h2 hz⟩,(e1 _).trans a0,(e1 _).trans a1,(e1 _).trans a2,(e1 _).trans a3,(e1 _).trans a4,(e1 _).trans a5,(e1 _).trans a6,(e1 _).trans a7,(e1 _).trans a8,(e1 _).trans a9,(e2 _).trans b0,(e2 _).trans b1,(e2 _).trans b2,(e2 _).trans b3,(e2 _).trans b4,(e2 _).trans b5,(e2 _).trans b6,(e2 _).trans b7,(e2 _).trans b8,(e2 _).trans b9⟩
theorem QV.drew {gb ge:Nat} {dF dL dP dD dN dS dI dG dB:Option Addr} {GL F8 Ep Ec Eo Eg Er Ed Ej Eb Ei Ea GJ Fj GK Fv GN Fq:Nat} {ck:Int} {e:Sw.Ev} {w:World} (h:QV gb ge dF GL F8 dL Ep Ec dP Eo Eg dD Er Ed dN Ej Eb dS Ei Ea dI GJ Fj dG GK Fv dB GN Fq ck e w):QV gb ge dF GL F8 dL Ep Ec dP Eo Eg dD Er Ed dN Ej Eb dS Ei Ea dI GJ Fj dG GK Fv dB GN Fq ck e w.drew:=h
theorem QV.ex {gb ge:Nat} {dF dL dP dD dN dS dI dG dB:Option Addr} {GL F8 Ep Ec Eo Eg Er Ed Ej Eb Ei Ea GJ Fj GK Fv GN Fq:Nat} {ck:Int} {e:Sw.Ev} {w w':World} (h:QV gb ge dF GL F8 dL Ep Ec dP Eo Eg dD Er Ed dN Ej Eb dS Ei Ea dI GJ Fj dG GK Fv dB GN Fq ck e w) (hb:Ex w w'):QV gb ge dF GL F8 dL Ep Ec dP Eo Eg dD Er Ed dN Ej Eb dS Ei Ea dI GJ Fj dG GK Fv dB GN Fq ck e w':=h.keep hb.size (hb.block gb h.1.1 (fun h=>h)) (hb.block ge h.1.2 (fun h=>h))
theorem QV.set {gb ge:Nat} {dF dL dP dD dN dS dI dG dB:Option Addr} {GL F8 Ep Ec Eo Eg Er Ed Ej Eb Ei Ea GJ Fj GK Fv GN Fq:Nat} {ck:Int} {e:Sw.Ev} {w:World} {p:Addr} {u:Value} (h:QV gb ge dF GL F8 dL Ep Ec dP Eo Eg dD Er Ed dN Ej Eb dS Ei Ea dI GJ Fj dG GK Fv dB GN Fq ck e w) (h1:p.block≠gb) (h2:p.block≠ge):QV gb ge dF GL F8 dL Ep Ec dP Eo Eg dD Er Ed dN Ej Eb dS Ei Ea dI GJ Fj dG GK Fv dB GN Fq ck e (w.setCell p u):=
 h.keep (Nat.le_of_eq (World.size_setCell _ _ _).symm) (Below.heap_setCell _ _ _ _ (fun e=>h1 e.symm)) (Below.heap_setCell _ _ _ _ (fun e=>h2 e.symm))
theorem QV.Fy {gb ge:Nat} {dF dL dP dD dN dS dI dG dB:Option Addr} {GL F8 Ep Ec Eo Eg Er Ed Ej Eb Ei Ea GJ Fj GK Fv GN Fq:Nat} {ck:Int} {e:Sw.Ev} {w:World} (h:QV gb ge dF GL F8 dL Ep Ec dP Eo Eg dD Er Ed dN Ej Eb dS Ei Ea dI GJ Fj dG GK Fv dB GN Fq ck e w.drew):QV gb ge dF GL F8 dL Ep Ec dP Eo Eg dD Er Ed dN Ej Eb dS Ei Ea dI GJ Fj dG GK Fv dB GN Fq ck e w:=h
theorem rZ {p:Prop} (h:p:=by ((try dsimp only);(repeat (first|with_reducible assumption|with_reducible exact QV.Fy (by with_reducible assumption)|with_reducible refine QV.drew ?_|with_reducible refine QV.ex (by assumption) (by assumption)|(refine QV.set ?_ (by dsimp only;omega) (by dsimp only;omega)))))):p:=h
theorem GQ (A0:Option Addr) (c0 n0:Nat) (bs:List Int) (w:World) (hxs:RB w 0 A0 c0 n0 bs) (hq:∀ x∈bs,0≤x∧x≤255):Calls Tryz.prog 24 #[.slice A0 n0 c0] w fun E w'=>∃ (bF:Option Addr) (Di DZ:Nat) (bL:Option Addr) (Bg BR:Nat) (bP:Option Addr) (Bf BV:Nat) (bD:Option Addr) (Bh Ba:Nat) (bN:Option Addr) (Bd Bb:Nat) (bS:Option Addr) (Bc BZ:Nat) (bI:Option Addr) (Dg bIn:Nat) (bG:Option Addr) (Dh DL:Nat) (bB:Option Addr) (Dj Cy:Nat) (z:Sw.World) (e:Sw.Ev),E=.returned (.tuple #[.agg #[.slice bF DZ Di,.slice bL BR Bg,.slice bP BV Bf,.slice bD Ba Bh,.int .i64 z.AB.clock,.slice bN Bb Bd,.slice bS BZ Bc,.slice bI bIn Dg,.slice bG DL Dh,.slice bB Cy Dj],.agg #[.int .i64 e.kind,.int .i64 e.EK.user,.int .i64 e.EK.n,.int .i64 e.EK.kind,.int .i64 e.EK.ticket,.int .i64 e.EK.who,.int .i64 e.EK.Al,.int .i64 e.at_,.int .i64 e.ticket,.int .i64 e.who]])∧RW w' 0 bF Di DZ bL Bg BR bP Bf BV bD Bh Ba bN Bd Bb bS Bc BZ bI Dg bIn bG Dh DL bB Dj Cy z∧DZ+(BR+BV+Ba+Bb+BZ)+bIn+(DL+QJ z.AV)+(Cy+Rw z.BS)≤1048576∧Ex w w':=by
 go_enter Tryz.func24,Tryz.ntmps24
 go_wp2_with fail
 apply Calls.mono
 apply PY
 ·apply Rs.A8 hxs;(exact AO)
 ·exact hq
 rintro E w1 ⟨rb,rfl,hrd,hrb,hb⟩
 obtain⟨hc,hf,hz⟩:=xy hb
 have hlt:=hrd.lt
 have nX:w.heap.size+2≤rb:=Aq
 have ABn:Lb w1 w.heap.size 10:=Lb.ex (Lb.alloc (Lb.new rfl rfl)) hb
 have ABm:Lb w1 (w.heap.size+1) 10:=Lb.ex (Lb.new (by simp only[zA]) rfl) hb
 clear hxs hq
 go_upto_region 3 with (go_at_call 35;apply Calls.mono;apply NN;(apply Be.keep;assumption;(exact Cj));omega;rintro E w2 ⟨dF,GL,F8,dL,Ep,Ec,dP,Eo,Eg,dD,Er,Ed,dN,Ej,Eb,dS,Ei,Ea,dI,GJ,Fj,dG,GK,Fv,dB,GN,Fq,z,rfl,hz1,Lm,hrd,hb⟩;(obtain⟨hc,hf,hz⟩:=xd hb))
 go_upto_region 4 with (go_at_call 68;apply Calls.mono;apply (Q3 (x:=z));(apply Be.keep;assumption;(exact Cj));exact Lm;(exact (hz1.keep AO).less Aq);omega;rintro E w3 ⟨e,rfl,hrd,hb⟩;(obtain⟨hc,hf,hz⟩:=xd hb))
 (refine CF fun W0 hb0 hc0 hf0 hz0=>?_)
 have hA:Fw W0 w2.heap.size dF GL F8 dL Ep Ec dP Eo Eg dD Er Ed dN Ej Eb dS Ei Ea dI GJ Fj dG GK Fv dB GN Fq z.AB.clock:=Fw.new
 have hV:K_ W0 w3.heap.size e:=K_.new
 have Fu:Lb W0 w.heap.size 10:=(by (exact Gd))
 have Rt:Lb W0 (w.heap.size+1) 10:=(by (exact Gd))
 have hk2:KF (rb+1) w2 W0:=AO
 have hz2:RW w2 (rb+1) dF GL F8 dL Ep Ec dP Eo Eg dD Er Ed dN Ej Eb dS Ei Ea dI GJ Fj dG GK Fv dB GN Fq z:=hz1.less Aq
 have dh:=(hrd.keep (show KB rb w3 W0 from Cj)).more (show _≤30000 by omega)
 have hcq:Ch (· = rb) w W0:=AA
 have hn:=Fb hz1 Lm
 have hgb:rb<w2.heap.size:=Aq
 have hgd:w2.heap.size<w3.heap.size:=Aq
 have hgw:w2.heap.size≤w2.heap.size:=Nat.le_refl _
 have H0:mq w w2 rb w2.heap.size w3.heap.size 30000 dF GL F8 dL Ep Ec dP Eo Eg dD Er Ed dN Ej Eb dS Ei Ea dI GJ Fj dG GK Fv dB GN Fq z W0:=⟨e,hV,hA,hk2,Fu,Rt,dh,hcq⟩
 have Li:=Lib.hid Lm
 have HZ:=Lib.hid hz2
 clear hb0 hc0 hf0 hb hc hf hz1 Lm hrd hA hV Fu Rt hk2 hz2 dh hcq
 ((repeat (rename Ch _ _ _=>zz;clear zz));(repeat (rename Be _ _ _=>zz;clear zz));(repeat (rename (∀ (b o:Nat),¬((⟨b,0,none⟩:Addr)=⟨b-_+_,0,none⟩)→_)=>zz;clear zz)))
 obtain⟨gb,QQ⟩:∃ g,g=w2.heap.size:=⟨_,rfl⟩
 obtain⟨ge,jW⟩:∃ g,g=w3.heap.size:=⟨_,rfl⟩
 rw[← QQ,← jW] at H0 hgd
 rw[← QQ] at hgb
 replace hgw:w2.heap.size≤gb:=Nat.le_of_eq QQ.symm
 rw[← QQ,← jW]
 have HG:=Lib.hid QQ
 clear QQ jW
 obtain⟨Wq,CE⟩:∃ z,z=W0:=⟨_,rfl⟩
 subst CE
 obtain⟨e,hV,hA,TF,Fu,Rt,hrd,hb⟩:=H0
 have hst:=xc hb
 (try simp only[BO] at hst)
 obtain⟨hcq,XP,QA⟩:=hst
 have HK:=Lib.hid TF
 have HV:=Lib.hid hV
 have HA:=Lib.hid hA
 clear TF hV hA
 go_upto_if 15 with (go_at_call 38;apply Calls.mono;apply MH;(apply Be.keep;assumption;(exact Cj));(exact Bu);(exact Bu);(exact Bu);rintro E w1 ⟨b,rfl,hrd,hb⟩;obtain⟨hc,hf,hz⟩:=xd hb)
 go_cut [] (fun wx=>mq w w2 rb gb ge 40000 dF GL F8 dL Ep Ec dP Eo Eg dD Er Ed dN Ej Eb dS Ei Ea dI GJ Fj dG GK Fv dB GN Fq z wx)
 case first=>
  have H1:mq w w2 rb gb ge 31000 dF GL F8 dL Ep Ec dP Eo Eg dD Er Ed dN Ej Eb dS Ei Ea dI GJ Fj dG GK Fv dB GN Fq z w1:=⟨e,HV.out.keep (hb.block ge HV.out.lt (by show ¬ge=rb;omega)) hb.size,HA.out.keep (hb.block gb HA.out.lt (by show ¬gb=rb;omega)) hb.size,KF.trans HK.out (by exact AO),Lb.MB hb Fu (by omega),Lb.MB hb Rt (by omega),(Be.keep hrd Cj).more (by omega),AA⟩
  clear hb hc hf hz hcq XP QA hrd HK HV HA Fu Rt e
  ((repeat (rename Ch _ _ _=>zz;clear zz));(repeat (rename Be _ _ _=>zz;clear zz));(repeat (rename (∀ (b o:Nat),¬((⟨b,0,none⟩:Addr)=⟨b-_+_,0,none⟩)→_)=>zz;clear zz)))
  cases b
  ·go_wp2_with fail
   go_meet
   obtain⟨e,hV,hA,TF,Fu,Rt,hrd,hb⟩:=H1
   exact⟨e,hV,hA,TF,Fu,Rt,hrd.more (by omega),hb⟩
  ·go_wp2_with fail
   go_cut [] (fun wx=>mq w w2 rb gb ge 32000 dF GL F8 dL Ep Ec dP Eo Eg dD Er Ed dN Ej Eb dS Ei Ea dI GJ Fj dG GK Fv dB GN Fq z wx)
   case first=>
    obtain⟨e,hV,hA,TF,Fu,Rt,hrd,hb⟩:=H1
    have hst:=xc hb
    (try simp only[BO] at hst)
    obtain⟨hcb,M6,hzb⟩:=hst
    have HK:=Lib.hid TF
    have aM:=Lib.hid Fu
    have TW:=Lib.hid Rt
    obtain⟨b0,k0,k1,k2,k3,k4,k5,k6,k7,k8,k9,kf⟩:=hA
    obtain⟨v0,u0,u1,u2,u3,u4,u5,u6,u7,u8,u9,uf⟩:=hV
    clear TF Fu Rt
    (focus (refine CF fun W0 hb0 hc0 hf0 hz0=>?_;refine Aj [8] (S:=fun w'=>Ce rb W0 w') MQ (fun hHeld=>?_);(repeat' (first|(revert hK;intro hK;go_simp;(try ((go_at_call 37;apply Calls.mono;apply (Gy (N:=4));(apply Be.keep;assumption;(exact Cj));omega;rfl;decide;rintro E w5 ⟨v5,rfl,hv5,hrd,hb⟩;have hsel:=Ql hv5;have Um:(v5:Int)<4:=(by omega);(obtain⟨hc,hf,hz⟩:=xd hb));(try go_wp2_with fail)));(first|(refine ER hK (h:=?_);clear hK K;(try clear hHeld))|(refine CQ hK MQ (h:=?_);clear hK K hHeld;intro hHeld)))|refine Mc [6] [] (h:=?_)|refine tkB [6] [] hHeld (h:=?_)|refine Mo (fun K hK=>?_) ?_|refine FW (fun K hK=>?_) ?_|refine FV ?_|exact Cf|refine Mh (fun K hK=>?_) ?_|refine FT (fun K hK=>?_) ?_));all_goals (refine FR ?_)))
    all_goals go_wp2_with fail
    all_goals go_meet
    all_goals exact⟨⟨Tn v5 0 10 (-1) e.kind,e.EK,e.at_,e.ticket,e.who⟩,K_.new,Fw.new,(by have hk:=HK.out;with_reducible repeat (first|exact hk|apply kD|apply kA|(refine kS ?_ (by dsimp only;omega))|(apply kE;assumption)|(refine kC (by assumption) ?_ (by omega)))),(by have:=aM.out;(exact Gd)),(by have:=TW.out;(exact Gd)),(Be.keep hrd Cj).more (by omega),AA⟩
   case rest=>
    clear H1
    go_wp2_with fail
    go_cut [] (fun wx=>mq w w2 rb gb ge 33000 dF GL F8 dL Ep Ec dP Eo Eg dD Er Ed dN Ej Eb dS Ei Ea dI GJ Fj dG GK Fv dB GN Fq z wx)
    case first=>
     obtain⟨e,hV,hA,TF,Fu,Rt,hrd,hb⟩:=hcut
     have hst:=xc hb
     (try simp only[BO] at hst)
     obtain⟨hcb,M6,hzb⟩:=hst
     have HK:=Lib.hid TF
     have aM:=Lib.hid Fu
     have TW:=Lib.hid Rt
     obtain⟨b0,k0,k1,k2,k3,k4,k5,k6,k7,k8,k9,kf⟩:=hA
     obtain⟨v0,u0,u1,u2,u3,u4,u5,u6,u7,u8,u9,uf⟩:=hV
     clear TF Fu Rt
     (focus (refine CF fun W0 hb0 hc0 hf0 hz0=>?_;refine Aj [8] (S:=fun w'=>Ce rb W0 w') MQ (fun hHeld=>?_);(repeat' (first|(revert hK;intro hK;go_simp;(try ((go_at_call 37;apply Calls.mono;apply (Gy (N:=3));(apply Be.keep;assumption;(exact Cj));omega;rfl;decide;rintro E w5 ⟨v5,rfl,hv5,hrd,hb⟩;have hsel:=Mf hv5;have Um:(v5:Int)<3:=(by omega);(obtain⟨hc,hf,hz⟩:=xd hb));(try go_wp2_with fail)));(first|(refine ER hK (h:=?_);clear hK K;(try clear hHeld))|(refine CQ hK MQ (h:=?_);clear hK K hHeld;intro hHeld)))|refine Mc [6] [] (h:=?_)|refine tkB [6] [] hHeld (h:=?_)|refine Mo (fun K hK=>?_) ?_|refine FW (fun K hK=>?_) ?_|refine FV ?_|exact Cf|refine Mh (fun K hK=>?_) ?_|refine FT (fun K hK=>?_) ?_));all_goals (refine FR ?_)))
     all_goals go_wp2_with fail
     all_goals go_meet
     all_goals exact⟨⟨e.kind,e.EK,bO v5 (-1) 9 e.at_,e.ticket,e.who⟩,K_.new,Fw.new,(by have hk:=HK.out;with_reducible repeat (first|exact hk|apply kD|apply kA|(refine kS ?_ (by dsimp only;omega))|(apply kE;assumption)|(refine kC (by assumption) ?_ (by omega)))),(by have:=aM.out;(exact Gd)),(by have:=TW.out;(exact Gd)),(Be.keep hrd Cj).more (by omega),AA⟩
    case rest=>
     go_wp2_with fail
     obtain⟨e,hV,hA,TF,Fu,Rt,hrd,hb⟩:=hcut
     have hst:=xc hb
     (try simp only[BO] at hst)
     obtain⟨hcb,M6,hzb⟩:=hst
     have HK:=Lib.hid TF
     have aM:=Lib.hid Fu
     have TW:=Lib.hid Rt
     obtain⟨b0,k0,k1,k2,k3,k4,k5,k6,k7,k8,k9,kf⟩:=hA
     obtain⟨v0,u0,u1,u2,u3,u4,u5,u6,u7,u8,u9,uf⟩:=hV
     clear TF Fu Rt
     (focus (refine CF fun W0 hb0 hc0 hf0 hz0=>?_;refine Aj [8] (S:=fun w'=>Ce rb W0 w') MQ (fun hHeld=>?_);(repeat' (first|(revert hK;intro hK;go_simp;(try ((go_at_call 37;apply Calls.mono;apply (Gy (N:=3));(apply Be.keep;assumption;(exact Cj));omega;rfl;decide;rintro E w5 ⟨v5,rfl,hv5,hrd,hb⟩;have hsel:=Mf hv5;have Um:(v5:Int)<3:=(by omega);(obtain⟨hc,hf,hz⟩:=xd hb));(try go_wp2_with fail)));(first|(refine ER hK (h:=?_);clear hK K;(try clear hHeld))|(refine CQ hK MQ (h:=?_);clear hK K hHeld;intro hHeld)))|refine Mc [6] [] (h:=?_)|refine tkB [6] [] hHeld (h:=?_)|refine Mo (fun K hK=>?_) ?_|refine FW (fun K hK=>?_) ?_|refine FV ?_|exact Cf|refine Mh (fun K hK=>?_) ?_|refine FT (fun K hK=>?_) ?_));all_goals (refine FR ?_)))
     all_goals go_wp2_with fail
     all_goals go_meet
     all_goals exact⟨⟨e.kind,e.EK,e.at_,bO v5 (-1) 8 e.ticket,e.who⟩,K_.new,Fw.new,(by have hk:=HK.out;with_reducible repeat (first|exact hk|apply kD|apply kA|(refine kS ?_ (by dsimp only;omega))|(apply kE;assumption)|(refine kC (by assumption) ?_ (by omega)))),(by have:=aM.out;(exact Gd)),(by have:=TW.out;(exact Gd)),(Be.keep hrd Cj).more (by omega),AA⟩
 case rest=>
  obtain⟨e,hV,hA,TF,Fu,Rt,hrd,hb⟩:=hcut
  have HB:=Lib.hid (show mq w w2 rb gb ge 40000 dF GL F8 dL Ep Ec dP Eo Eg dD Er Ed dN Ej Eb dS Ei Ea dI GJ Fj dG GK Fv dB GN Fq z wc from⟨e,hV,hA,TF,Fu,Rt,hrd,hb⟩)
  clear hcq XP QA hb hrd HK HV HA hV hA TF Fu Rt
  ((repeat (rename Ch _ _ _=>zz;clear zz));(repeat (rename Be _ _ _=>zz;clear zz));(repeat (rename (∀ (b o:Nat),¬((⟨b,0,none⟩:Addr)=⟨b-_+_,0,none⟩)→_)=>zz;clear zz)))
  obtain⟨e,hV,hA,TF,Fu,Rt,hrd,hb⟩:=HB.out
  have hst:=xc hb
  (try simp only[BO] at hst)
  obtain⟨hcb,M6,hzb⟩:=hst
  have HK:=Lib.hid TF
  have aM:=Lib.hid Fu
  have TW:=Lib.hid Rt
  obtain⟨b0,k0,k1,k2,k3,k4,k5,k6,k7,k8,k9,kf⟩:=hA
  obtain⟨v0,u0,u1,u2,u3,u4,u5,u6,u7,u8,u9,uf⟩:=hV
  clear TF Fu Rt
  go_wp2_with (first|(go_at_call 38;apply Calls.mono;apply MH;(apply Be.keep;assumption;(exact Cj));(exact Bu);(exact Bu);(exact Bu);rintro E w1 ⟨b,rfl,hrd,hb⟩;obtain⟨hc,hf,hz⟩:=xd hb)|(go_at_call 39;apply Calls.mono;apply (Kc (x:=z));(apply Be.keep;assumption;(exact Cj));exact Li.out;(exact HZ.out.keep (by have hk:=HK.out;with_reducible repeat (first|exact hk|apply kD|apply kA|(apply kE;assumption)|(refine kC (by assumption) ?_ (by omega)))));omega;rintro E w6 ⟨fF,PM,PL,fL,Jo,Jc,fP,Jm,Ja,fD,Jp,Jd,fN,Jn,Jb,fS,Jl,JZ,fI,PH,PG,fG,PK,PI,fB,PO,PN,y,rfl,hy1,hyn,hrd,hb⟩;(obtain⟨hc,hf,hz⟩:=xd hb)))
  ·(refine CF fun W0 hb0 hc0 hf0 hz0=>?_)
   have pJ:Fw W0 gb fF PM PL fL Jo Jc fP Jm Ja fD Jp Jd fN Jn Jb fS Jl JZ fI PH PG fG PK PI fB PO PN y.AB.clock:=Fw.new
   have o9:K_ W0 ge e:=K_.new
   have wR:RW W0 (w.heap.size+2) fF PM PL fL Jo Jc fP Jm Ja fD Jp Jd fN Jn Jb fS Jl JZ fI PH PG fG PK PI fB PO PN y:=(hy1.keep (by with_reducible repeat (first|exact kR _ _|apply kD|apply kA|(refine kS ?_ (by dsimp only;omega))|(apply kE;assumption)|(refine kC (by assumption) ?_ (by omega))))).less Aq
   have wZ:Lb W0 w.heap.size 10:=(by have:=aM.out;(exact Gd))
   have wY:Lb W0 (w.heap.size+1) 10:=(by have:=TW.out;(exact Gd))
   have HE:Mq w W0:=⟨AA⟩
   have hS0:=QV.of pJ o9
   clear b0 k0 k1 k2 k3 k4 k5 k6 k7 k8 k9 kf v0 u0 u1 u2 u3 u4 u5 u6 u7 u8 u9 uf hb hc hf hz hb0 hc0 hf0 hz0 hcb M6 hzb hrd HB HK pJ o9
   ((repeat (rename Ch _ _ _=>zz;clear zz));(repeat (rename Be _ _ _=>zz;clear zz));(repeat (rename (∀ (b o:Nat),¬((⟨b,0,none⟩:Addr)=⟨b-_+_,0,none⟩)→_)=>zz;clear zz)))
   obtain⟨Wr,YC⟩:∃ z,z=W0:=⟨_,rfl⟩
   subst YC
   obtain⟨hca,hfa⟩:=Lb.rules wZ
   obtain⟨hce,hfe⟩:=Lb.rules wY
   have hb:=HE.out
   have XM:=hb.size
   have hsg:=hS0.1
   (focus (refine CF fun W0 hb0 hc0 hf0 hz0=>?_;refine Aj [] (S:=fun w'=>QV gb ge fF PM PL fL Jo Jc fP Jm Ja fD Jp Jd fN Jn Jb fS Jl JZ fI PH PG fG PK PI fB PO PN y.AB.clock e w') rZ (fun hHeld=>?_);(repeat' (first|(revert hK;intro hK;go_simp;refine CQ hK rZ (h:=?_);clear hK K hHeld;intro hHeld)|refine tkB [] [] hHeld (h:=?_)|refine FW (fun K hK=>?_) ?_|refine FV ?_|exact Cf|refine FT (fun K hK=>?_) ?_));all_goals (refine FR ?_)))
   all_goals go_wp2_with fail
   all_goals refine bodyPost_ret (v:=.tuple #[.agg #[.slice fF PL PM,.slice fL Jc Jo,.slice fP Ja Jm,.slice fD Jd Jp,.int .i64 y.AB.clock,.slice fN Jb Jn,.slice fS JZ Jl,.slice fI PG PH,.slice fG PI PK,.slice fB PN PO],.agg #[.int .i64 e.kind,.int .i64 e.EK.user,.int .i64 e.EK.n,.int .i64 e.EK.kind,.int .i64 e.EK.ticket,.int .i64 e.EK.who,.int .i64 e.EK.Al,.int .i64 e.at_,.int .i64 e.ticket,.int .i64 e.who]]) (by simp[results,Tryz.results24,go_sem, *]) rfl ?_
   all_goals exact⟨fF,PM,PL,fL,Jo,Jc,fP,Jm,Ja,fD,Jp,Jd,fN,Jn,Jb,fS,Jl,JZ,fI,PH,PG,fG,PK,PI,fB,PO,PN,y,e,rfl,(wR.keep AO).less (Nat.zero_le _),hyn,AA⟩
  ·(refine CF fun W0 hb0 hc0 hf0 hz0=>?_)
   have pJ:Fw W0 gb dF GL F8 dL Ep Ec dP Eo Eg dD Er Ed dN Ej Eb dS Ei Ea dI GJ Fj dG GK Fv dB GN Fq z.AB.clock:=Fw.new
   have o9:K_ W0 ge e:=K_.new
   have wR:RW W0 (w.heap.size+2) dF GL F8 dL Ep Ec dP Eo Eg dD Er Ed dN Ej Eb dS Ei Ea dI GJ Fj dG GK Fv dB GN Fq z:=(HZ.out.keep (by have hk:=HK.out;with_reducible repeat (first|exact hk|apply kD|apply kA|(refine kS ?_ (by dsimp only;omega))|(apply kE;assumption)|(refine kC (by assumption) ?_ (by omega))))).less (by omega)
   have wZ:Lb W0 w.heap.size 10:=(by have:=aM.out;(exact Gd))
   have wY:Lb W0 (w.heap.size+1) 10:=(by have:=TW.out;(exact Gd))
   have HE:Mq w W0:=⟨AA⟩
   have hS0:=QV.of pJ o9
   clear b0 k0 k1 k2 k3 k4 k5 k6 k7 k8 k9 kf v0 u0 u1 u2 u3 u4 u5 u6 u7 u8 u9 uf hb hc hf hz hb0 hc0 hf0 hz0 hcb M6 hzb hrd HB HK pJ o9
   ((repeat (rename Ch _ _ _=>zz;clear zz));(repeat (rename Be _ _ _=>zz;clear zz));(repeat (rename (∀ (b o:Nat),¬((⟨b,0,none⟩:Addr)=⟨b-_+_,0,none⟩)→_)=>zz;clear zz)))
   obtain⟨Wr,YC⟩:∃ z,z=W0:=⟨_,rfl⟩
   subst YC
   obtain⟨hca,hfa⟩:=Lb.rules wZ
   obtain⟨hce,hfe⟩:=Lb.rules wY
   have hb:=HE.out
   have XM:=hb.size
   have hsg:=hS0.1
   (focus (refine CF fun W0 hb0 hc0 hf0 hz0=>?_;refine Aj [] (S:=fun w'=>QV gb ge dF GL F8 dL Ep Ec dP Eo Eg dD Er Ed dN Ej Eb dS Ei Ea dI GJ Fj dG GK Fv dB GN Fq z.AB.clock e w') rZ (fun hHeld=>?_);(repeat' (first|(revert hK;intro hK;go_simp;refine CQ hK rZ (h:=?_);clear hK K hHeld;intro hHeld)|refine tkB [] [] hHeld (h:=?_)|refine FW (fun K hK=>?_) ?_|refine FV ?_|exact Cf|refine FT (fun K hK=>?_) ?_));all_goals (refine FR ?_)))
   all_goals go_wp2_with fail
   all_goals refine bodyPost_ret (v:=.tuple #[.agg #[.slice dF F8 GL,.slice dL Ec Ep,.slice dP Eg Eo,.slice dD Ed Er,.int .i64 z.AB.clock,.slice dN Eb Ej,.slice dS Ea Ei,.slice dI Fj GJ,.slice dG Fv GK,.slice dB Fq GN],.agg #[.int .i64 e.kind,.int .i64 e.EK.user,.int .i64 e.EK.n,.int .i64 e.EK.kind,.int .i64 e.EK.ticket,.int .i64 e.EK.who,.int .i64 e.EK.Al,.int .i64 e.at_,.int .i64 e.ticket,.int .i64 e.who]]) (by simp[results,Tryz.results24,go_sem, *]) rfl ?_
   all_goals exact⟨dF,GL,F8,dL,Ep,Ec,dP,Eo,Eg,dD,Er,Ed,dN,Ej,Eb,dS,Ei,Ea,dI,GJ,Fj,dG,GK,Fv,dB,GN,Fq,z,e,rfl,(wR.keep AO).less (Nat.zero_le _),hn,AA⟩
set_option maxHeartbeats 20000000
theorem Xf (x y:Sw.World):decide (x=y)=(decide (x.first=y.first)&&(decide (x.AB=y.AB)&&(decide (x.lines=y.lines)&&(decide (x.AV=y.AV)&&decide (x.BS=y.BS))))):=by
 rw[Bool.eq_iff_iff];simp[Xe]
theorem S_ {α:Type} [DecidableEq α] {xs ys:List α} {n m:Nat} (h1:n=xs.length) (h2:m=ys.length) (h:n≠m):decide (xs=ys)=false:=by
 rw[decide_eq_false_iff_not];rintro rfl;omega
theorem jA {u v:Sw.Ee} (h:u≠v):u.user≠v.user∨(u.user=v.user∧(u.n≠v.n∨(u.n=v.n∧(u.kind≠v.kind∨(u.kind=v.kind∧(u.ticket≠v.ticket∨(u.ticket=v.ticket∧(u.who≠v.who∨(u.who=v.who∧u.Al≠v.Al))))))))):=by
 cases u;cases v
 simp only[ne_eq,Sw.Ee.mk.injEq] at h ⊢
 omega
theorem head_ne {u v:Sw.Head} (h:u≠v):u.size≠v.size∨(u.size=v.size∧(u.log≠v.log∨(u.log=v.log∧u.own≠v.own))):=by
 cases u;cases v
 simp only[ne_eq,Sw.Head.mk.injEq] at h ⊢
 omega
theorem Dv (aF:Option Addr) (BD A_:Nat) (aL:Option Addr) (Ae AU:Nat) (aP:Option Addr) (Ag AY:Nat) (aD:Option Addr) (Ac AQ:Nat) (aN:Option Addr) (Ad Aa:Nat) (aS:Option Addr) (Af Ab:Nat) (aI:Option Addr) (BF A7:Nat) (aG:Option Addr) (BA Az:Nat) (aB:Option Addr) (aBc Ao:Nat) (x:Sw.World) (bF:Option Addr) (Di DZ:Nat) (bL:Option Addr) (Bg BR:Nat) (bP:Option Addr) (Bf BV:Nat) (bD:Option Addr) (Bh Ba:Nat) (bN:Option Addr) (Bd Bb:Nat) (bS:Option Addr) (Bc BZ:Nat) (bI:Option Addr) (Dg bIn:Nat) (bG:Option Addr) (Dh DL:Nat) (bB:Option Addr) (Dj Cy:Nat) (y:Sw.World) (w:World) (hx:RW w 0 aF BD A_ aL Ae AU aP Ag AY aD Ac AQ aN Ad Aa aS Af Ab aI BF A7 aG BA Az aB aBc Ao x) (hy:RW w 0 bF Di DZ bL Bg BR bP Bf BV bD Bh Ba bN Bd Bb bS Bc BZ bI Dg bIn bG Dh DL bB Dj Cy y):Calls Tryz.prog 13 #[.agg #[.slice aF A_ BD,.slice aL AU Ae,.slice aP AY Ag,.slice aD AQ Ac,.int .i64 x.AB.clock,.slice aN Aa Ad,.slice aS Ab Af,.slice aI A7 BF,.slice aG Az BA,.slice aB Ao aBc],.agg #[.slice bF DZ Di,.slice bL BR Bg,.slice bP BV Bf,.slice bD Ba Bh,.int .i64 y.AB.clock,.slice bN Bb Bd,.slice bS BZ Bc,.slice bI bIn Dg,.slice bG DL Dh,.slice bB Cy Dj]] w fun E w'=>E=.returned (.bool (decide (x=y)))∧Ex w w':=by
 obtain⟨x1,x2,x3,x4,x5⟩:=hx
 obtain⟨y1,y2,y3,y4,y5⟩:=hy
 have b3:=Rs.big x3
 have b4:=x4.len.2
 have b5:=x5.len.2
 have l3:=Lib.hid x3.1
 have l4:=Lib.hid x4.len.1
 have l5:=Lib.hid x5.len.1
 have m3:=Lib.hid y3.1
 have m4:=Lib.hid y4.len.1
 have m5:=Lib.hid y5.len.1
 have He:=Lib.hid (Xf x y)
 cases g1:decide (x.first=y.first)
 case false=>
  go_enter Tryz.func13,Tryz.ntmps13
  go_wp2_with (go_at_call 42;apply Calls.mono;apply Hl;(exact Co);(exact Co);rintro E w1 ⟨rfl,hb⟩;obtain⟨hc,hf,hz⟩:=xy hb)
  go_ret
  exact⟨Ar (by rw[He.out,g1];simp),AA⟩
 cases g2:decide (x.AB=y.AB)
 case false=>
  go_enter Tryz.func13,Tryz.ntmps13
  go_wp2_with (first|(go_at_call 42;apply Calls.mono;apply Hl;(exact Co);(exact Co);rintro E w1 ⟨rfl,hb⟩;obtain⟨hc,hf,hz⟩:=xy hb)|(go_at_call 29;apply Calls.mono;apply EN;((apply RM.A8;assumption);exact AO);((apply RM.A8;assumption);exact AO);rintro E w1 ⟨rfl,hb⟩;obtain⟨hc,hf,hz⟩:=xy hb))
  go_ret
  exact⟨Ar (by rw[He.out,g2];simp),AA⟩
 by_cases g3:A7=bIn
 case neg=>
  have q3:((A7:Int) != bIn)=true:=by rw[bne_iff_ne];omega
  go_enter Tryz.func13,Tryz.ntmps13
  go_wp2_with (first|(go_at_call 42;apply Calls.mono;apply Hl;(exact Co);(exact Co);rintro E w1 ⟨rfl,hb⟩;obtain⟨hc,hf,hz⟩:=xy hb)|(go_at_call 29;apply Calls.mono;apply EN;((apply RM.A8;assumption);exact AO);((apply RM.A8;assumption);exact AO);rintro E w1 ⟨rfl,hb⟩;obtain⟨hc,hf,hz⟩:=xy hb))
  go_ret
  exact⟨Ar (by rw[He.out,S_ l3.out m3.out g3];simp),AA⟩
 subst g3
 by_cases g4:Az=DL
 case neg=>
  have q4:((Az:Int) != DL)=true:=by rw[bne_iff_ne];omega
  go_enter Tryz.func13,Tryz.ntmps13
  go_wp2_with (first|(go_at_call 42;apply Calls.mono;apply Hl;(exact Co);(exact Co);rintro E w1 ⟨rfl,hb⟩;obtain⟨hc,hf,hz⟩:=xy hb)|(go_at_call 29;apply Calls.mono;apply EN;((apply RM.A8;assumption);exact AO);((apply RM.A8;assumption);exact AO);rintro E w1 ⟨rfl,hb⟩;obtain⟨hc,hf,hz⟩:=xy hb))
  go_ret
  exact⟨Ar (by rw[He.out,S_ l4.out m4.out g4];simp),AA⟩
 subst g4
 by_cases g5:Ao=Cy
 case neg=>
  have q5:((Ao:Int) != Cy)=true:=by rw[bne_iff_ne];omega
  go_enter Tryz.func13,Tryz.ntmps13
  go_wp2_with (first|(go_at_call 42;apply Calls.mono;apply Hl;(exact Co);(exact Co);rintro E w1 ⟨rfl,hb⟩;obtain⟨hc,hf,hz⟩:=xy hb)|(go_at_call 29;apply Calls.mono;apply EN;((apply RM.A8;assumption);exact AO);((apply RM.A8;assumption);exact AO);rintro E w1 ⟨rfl,hb⟩;obtain⟨hc,hf,hz⟩:=xy hb))
  go_ret
  exact⟨Ar (by rw[He.out,S_ l5.out m5.out g5];simp),AA⟩
 subst g5
 go_enter Tryz.func13,Tryz.ntmps13
 go_wp2_with (first|(go_at_call 42;apply Calls.mono;apply Hl;(exact Co);(exact Co);rintro E w1 ⟨rfl,hb⟩;obtain⟨hc,hf,hz⟩:=xy hb)|(go_at_call 29;apply Calls.mono;apply EN;((apply RM.A8;assumption);exact AO);((apply RM.A8;assumption);exact AO);rintro E w1 ⟨rfl,hb⟩;obtain⟨hc,hf,hz⟩:=xy hb))
 go_loopw [5] (fun i wr=>∃ k:Nat,k≤A7∧i=.int .i64 k∧Ex w1 wr∧decide (x.lines=y.lines)=decide (x.lines.drop k=y.lines.drop k)) (fun i _=>A7-(intOf i).toNat)
 case atStart=>exact⟨0,Nat.zero_le _,rfl,AA,rfl⟩
 case round=>
  obtain⟨k,hk,rfl,hb2,hrel⟩:=hrel
  have hst:=xr hb2
  (try simp only[BO] at hst)
  obtain⟨hc2,hf2,hz2⟩:=hst
  by_cases hlt:k<A7
  ·obtain⟨g,off,u,rfl,hg0,hg,hd,hy,q0,q1,q2,q3,q4,q5⟩:=YP x3 hlt
   obtain⟨g',off',v,rfl,hg0',hg',hd',hz',p0,p1,p2,p3,p4,p5⟩:=YP y3 hlt
   have t1:(0:Int)≤(k:Int):=by omega
   have t2:(k:Int)<(A7:Int):=by omega
   rw[hd,hd'] at hrel
   have BI:=Lib.hid hrel
   clear hrel hd hd' hy hz'
   by_cases hyz:u=v
   ·subst hyz
    go_wp2_with fail
    go_quiet ((first|fail))
    all_goals go_wp2
    all_goals go_roundw
    case rel=>exact⟨k+1,by omega,by go_num,AA,by rw[BI.out];simp⟩
    case measure=>simp[intOf];omega
   ·have Hyz:=Lib.hid hyz
    rcases jA hyz with a1 | ⟨a1,a2 | ⟨a2,a3 | ⟨a3,a4 | ⟨a4,a5 | ⟨a5,a6⟩⟩⟩⟩⟩
    all_goals clear hyz
    all_goals go_wp2_with fail
    all_goals go_quiet ((first|fail))
    all_goals go_wp2
    all_goals go_ret
    all_goals exact⟨Ar (by rw[He.out,BI.out];simp[Hyz.out]),AA⟩
  ·have H3:=Lib.hid hrel;clear hrel
   have E3:decide (x.lines=y.lines)=true:=by rw[H3.out,List.drop_of_length_le (by have:=l3.out;omega),List.drop_of_length_le (by have:=m3.out;omega)];simp
   have HE3:=Lib.hid E3
   clear H3 E3
   go_wp2_with fail
   go_loopw [6] (fun i wr2=>∃ k:Nat,k≤Az∧i=.int .i64 k∧Ex w1 wr2∧decide (x.AV=y.AV)=decide (x.AV.drop k=y.AV.drop k)) (fun i _=>Az-(intOf i).toNat)
   case atStart=>exact⟨0,Nat.zero_le _,rfl,AA,rfl⟩
   case round=>
    obtain⟨k,hk,rfl,hb3,hrel⟩:=hrel
    have hst:=xr hb3
    (try simp only[BO] at hst)
    obtain⟨hc3,hf3,hz3⟩:=hst
    by_cases hlt:k<Az
    ·obtain⟨g,off,u,B1,d1,m1,rfl,hg0,hg,hd,hy,q0,q1,q2,q3,hr⟩:=Ld x4 hlt
     obtain⟨g',off',v,B2,d2,m2,rfl,hg0',hg',hd',hz',tC,q1',q2',q3',hr'⟩:=Ld y4 hlt
     have t1:(0:Int)≤(k:Int):=by omega
     have t2:(k:Int)<(Az:Int):=by omega
     rw[hd,hd'] at hrel
     have BI:=Lib.hid hrel
     clear hrel hd hd' hy hz'
     cases hyz:(decide (u.head=v.head)&&decide (u.done=v.done)) with
     | true=>
      have E:u=v:=by rw[← Uz] at hyz;exact of_decide_eq_true hyz
      have E:=Lib.hid E
      go_wp2_with fail
      (refine CF fun W0 hb0 hc0 hf0 hz0=>?_;go_region_held3 (fun w'=>Held W0 w') ((exact FU)) ((go_at_call 28;apply Calls.mono;apply Ho;(exact Co);(exact Co);rintro E w1 ⟨rfl,hb⟩;obtain⟨hc,hf,hz⟩:=xy hb));all_goals (obtain⟨hb,hc,hf,hz⟩:=xh (by assumption:Held W0 _)))
      all_goals go_wp2
      all_goals go_roundw
      case rel=>exact⟨k+1,by omega,by go_num,AA,by rw[BI.out];simp[E.out]⟩
      case measure=>simp[intOf];omega
     | false=>
      have E:u≠v:=by rw[← Uz] at hyz;exact of_decide_eq_false hyz
      have E:=Lib.hid E
      go_wp2_with fail
      (refine CF fun W0 hb0 hc0 hf0 hz0=>?_;go_region_held3 (fun w'=>Held W0 w') ((exact FU)) ((go_at_call 28;apply Calls.mono;apply Ho;(exact Co);(exact Co);rintro E w1 ⟨rfl,hb⟩;obtain⟨hc,hf,hz⟩:=xy hb));all_goals (obtain⟨hb,hc,hf,hz⟩:=xh (by assumption:Held W0 _)))
      all_goals go_wp2
      all_goals go_ret
      all_goals exact⟨Ar (by rw[He.out,BI.out];simp[E.out]),AA⟩
    ·have H4:=Lib.hid hrel;clear hrel
     have E4:decide (x.AV=y.AV)=true:=by rw[H4.out,List.drop_of_length_le (by have:=l4.out;omega),List.drop_of_length_le (by have:=m4.out;omega)];simp
     have ak:=Lib.hid E4
     clear H4 E4
     go_wp2_with fail
     go_loopw [7] (fun i wr3=>∃ k:Nat,k≤Ao∧i=.int .i64 k∧Ex w1 wr3∧decide (x.BS=y.BS)=decide (x.BS.drop k=y.BS.drop k)) (fun i _=>Ao-(intOf i).toNat)
     case atStart=>exact⟨0,Nat.zero_le _,rfl,AA,rfl⟩
     case round=>
      obtain⟨k,hk,rfl,hb4,hrel⟩:=hrel
      have hst:=xr hb4
      (try simp only[BO] at hst)
      obtain⟨hc4,rY,g_⟩:=hst
      by_cases hlt:k<Ao
      ·obtain⟨g,off,u,B1,d1,m1,rfl,hg0,hg,hd,hy,q0,q1,q2,q3,q4,hr⟩:=QU x5 hlt
       obtain⟨g',off',v,B2,d2,m2,rfl,hg0',hg',hd',hz',tC,q1',q2',q3',q4',hr'⟩:=QU y5 hlt
       have t1:(0:Int)≤(k:Int):=by omega
       have t2:(k:Int)<(Ao:Int):=by omega
       rw[hd,hd'] at hrel
       have BI:=Lib.hid hrel
       clear hrel hd hd' hy hz'
       by_cases b1:u.gate=v.gate
       case neg=>
        have E:=Lib.hid (show u≠v from fun e=>b1 (by rw[e]))
        have b1':(u.gate != v.gate)=true:=by simpa using b1
        go_wp2_with fail
        go_quiet ((first|fail))
        all_goals go_wp2
        all_goals go_ret
        all_goals exact⟨Ar (by rw[He.out,BI.out];simp[E.out]),AA⟩
       rw[← b1] at tC
       by_cases b2:u.head=v.head
       case neg=>
        have E:=Lib.hid (show u≠v from fun e=>b2 (by rw[e]))
        rcases head_ne b2 with c1 | ⟨c1,c2 | ⟨c2,c3⟩⟩
        all_goals clear b2
        all_goals go_wp2_with fail
        all_goals go_quiet ((first|fail))
        all_goals go_wp2
        all_goals go_ret
        all_goals exact⟨Ar (by rw[He.out,BI.out];simp[E.out]),AA⟩
       rw[← b2] at q1' q2' q3'
       cases b3:decide (u.proof=v.proof) with
       | true=>
        have E:=Lib.hid (show u=v from by have:=of_decide_eq_true b3;cases u;cases v;simp_all)
        go_wp2_with fail
        (refine CF fun W0 hb0 hc0 hf0 hz0=>?_;go_region_held3 (fun w'=>Held W0 w') ((exact FU)) ((go_at_call 42;apply Calls.mono;apply Hl;(exact Co);(exact Co);rintro E w1 ⟨rfl,hb⟩;obtain⟨hc,hf,hz⟩:=xy hb));all_goals (obtain⟨hb,hc,hf,hz⟩:=xh (by assumption:Held W0 _)))
        all_goals go_wp2
        all_goals go_roundw
        case rel=>exact⟨k+1,by omega,by go_num,AA,by rw[BI.out];simp[E.out]⟩
        case measure=>simp[intOf];omega
       | false=>
        have E:=Lib.hid (show u≠v from fun e=>absurd (of_decide_eq_false b3) (by rw[e];simp))
        go_wp2_with fail
        (refine CF fun W0 hb0 hc0 hf0 hz0=>?_;go_region_held3 (fun w'=>Held W0 w') ((exact FU)) ((go_at_call 42;apply Calls.mono;apply Hl;(exact Co);(exact Co);rintro E w1 ⟨rfl,hb⟩;obtain⟨hc,hf,hz⟩:=xy hb));all_goals (obtain⟨hb,hc,hf,hz⟩:=xh (by assumption:Held W0 _)))
        all_goals go_wp2
        all_goals go_ret
        all_goals exact⟨Ar (by rw[He.out,BI.out];simp[E.out]),AA⟩
      ·have H5:=Lib.hid hrel;clear hrel
       have E5:decide (x.BS=y.BS)=true:=by rw[H5.out,List.drop_of_length_le (by have:=l5.out;omega),List.drop_of_length_le (by have:=m5.out;omega)];simp
       have HE5:=Lib.hid E5
       clear H5 E5
       go_wp2_with fail
       go_ret
       exact⟨Ar (by rw[He.out,g1,g2,HE3.out,ak.out,HE5.out];rfl),AA⟩
set_option maxHeartbeats 20000000
theorem Fz (aF:Option Addr) (BD A_:Nat) (aL:Option Addr) (Ae AU:Nat) (aP:Option Addr) (Ag AY:Nat) (aD:Option Addr) (Ac AQ:Nat) (aN:Option Addr) (Ad Aa:Nat) (aS:Option Addr) (Af Ab:Nat) (aI:Option Addr) (BF A7:Nat) (aG:Option Addr) (BA Az:Nat) (aB:Option Addr) (aBc Ao:Nat) (x:Sw.World) (w:World) (hx:RW w 0 aF BD A_ aL Ae AU aP Ag AY aD Ac AQ aN Ad Aa aS Af Ab aI BF A7 aG BA Az aB aBc Ao x):Calls Tryz.prog 13 #[.agg #[.slice aF A_ BD,.slice aL AU Ae,.slice aP AY Ag,.slice aD AQ Ac,.int .i64 x.AB.clock,.slice aN Aa Ad,.slice aS Ab Af,.slice aI A7 BF,.slice aG Az BA,.slice aB Ao aBc],.agg #[.slice none 0 0,.slice none 0 0,.slice none 0 0,.slice none 0 0,.int .i64 0,.slice none 0 0,.slice none 0 0,.slice none 0 0,.slice none 0 0,.slice none 0 0]] w fun E w'=>E=.returned (.bool (decide (x=Sw.Cz)))∧Ex w w':=
 Dv aF BD A_ aL Ae AU aP Ag AY aD Ac AQ aN Ad Aa aS Af Ab aI BF A7 aG BA Az aB aBc Ao x none 0 0 none 0 0 none 0 0 none 0 0 none 0 0 none 0 0 none 0 0 none 0 0 none 0 0 Sw.Cz w hx (RW.Mv w 0)
theorem Jy {z:Sw.World} {e:Sw.Ev} (h:Sw.Cc z=false):Sw.Cg z e=(Sw.Cz,0):=by simp[Sw.Cg,h]
theorem Km {z:Sw.World} {e:Sw.Ev} (h:Sw.Cc z=true):Sw.Cg z e=Sw.step z e:=by simp[Sw.Cg,h]
theorem MN (aF:Option Addr) (BD A_:Nat) (aL:Option Addr) (Ae AU:Nat) (aP:Option Addr) (Ag AY:Nat) (aD:Option Addr) (Ac AQ:Nat) (aN:Option Addr) (Ad Aa:Nat) (aS:Option Addr) (Af Ab:Nat) (aI:Option Addr) (BF A7:Nat) (aG:Option Addr) (BA Az:Nat) (aB:Option Addr) (aBc Ao:Nat) (x:Sw.World) (k i t u:Int) (w:World) (hx:RW w 0 aF BD A_ aL Ae AU aP Ag AY aD Ac AQ aN Ad Aa aS Af Ab aI BF A7 aG BA Az aB aBc Ao x):Calls Tryz.prog 20 #[.agg #[.slice aF A_ BD,.slice aL AU Ae,.slice aP AY Ag,.slice aD AQ Ac,.int .i64 x.AB.clock,.slice aN Aa Ad,.slice aS Ab Af,.slice aI A7 BF,.slice aG Az BA,.slice aB Ao aBc],.agg #[.int .i64 k,.int .i64 0,.int .i64 0,.int .i64 0,.int .i64 0,.int .i64 0,.int .i64 0,.int .i64 i,.int .i64 t,.int .i64 u]] w fun E w'=>
  ∃ (bF:Option Addr) (Di DZ:Nat) (bL:Option Addr) (Bg BR:Nat) (bP:Option Addr) (Bf BV:Nat) (bD:Option Addr) (Bh Ba:Nat) (bN:Option Addr) (Bd Bb:Nat) (bS:Option Addr) (Bc BZ:Nat) (bI:Option Addr) (Dg bIn:Nat) (bG:Option Addr) (Dh DL:Nat) (bB:Option Addr) (Dj Cy:Nat) (τ:Nat→Nat),E=.returned (.tuple #[.agg #[.slice bF DZ Di,.slice bL BR Bg,.slice bP BV Bf,.slice bD Ba Bh,.int .i64 ((Sw.Cg x ⟨k,Sw.Eu,i,t,u⟩).1).AB.clock,.slice bN Bb Bd,.slice bS BZ Bc,.slice bI bIn Dg,.slice bG DL Dh,.slice bB Cy Dj],.int .i64 (Sw.Cg x ⟨k,Sw.Eu,i,t,u⟩).2])∧Eh Jk I4 τ w' w.heap.size bF Di DZ bL Bg BR bP Bf BV bD Bh Ba bN Bd Bb bS Bc BZ bI Dg bIn bG Dh DL bB Dj Cy (Sw.Cg x ⟨k,Sw.Eu,i,t,u⟩).1∧Ex w w':=
 Gq aF BD A_ aL Ae AU aP Ag AY aD Ac AQ aN Ad Aa aS Af Ab aI BF A7 aG BA Az aB aBc Ao x ⟨k,Sw.Eu,i,t,u⟩ w hx
end Go.Proofs.YtgaflnpmilikcaaGreat

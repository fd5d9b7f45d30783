/- Texts joined: Base. -/
import Derived.WalkKit
import Derived.WalkSpells
import Derived.WalkLawsBesides
import Derived.Lib.Hide
import Derived.Deep.RegionHeld3
import Derived.Deep.QuietTactic
import Derived.BigQuiet
set_option maxRecDepth 100000
set_option linter.unusedSimpArgs false
set_option linter.unusedVariables false
namespace Go.Proofs.YtgaflnpmilikcaaGreat
open Go.RowKit Go
structure Ch (S:Nat→Prop) (w w':World):Prop where
 os:w'.os=w.os
 tape:w'.tape=w.tape
 output:w'.output=w.output
 size:w.heap.size≤w'.heap.size
 block:∀ k,k<w.heap.size→¬S k→w'.heap[k]?=w.heap[k]?
theorem Ch.refl (S:Nat→Prop) (w:World):Ch S w w:=⟨rfl,rfl,rfl,Nat.le_refl _,fun _ _ _=>rfl⟩
theorem Ch.trans {S:Nat→Prop} {a b c:World} (h:Ch S a b) (k:Ch S b c):Ch S a c:=
 ⟨k.os.trans h.os,k.tape.trans h.tape,k.output.trans h.output,Nat.le_trans h.size k.size,
  fun i hi hS=>(k.block i (Nat.lt_of_lt_of_le hi h.size) hS).trans (h.block i hi hS)⟩
theorem Ch.trans' {S T:Nat→Prop} {a b c:World} (h:Ch S a b) (k:Ch T b c) (hT:∀ i,i<a.heap.size→T i→S i):Ch S a c:=
 ⟨k.os.trans h.os,k.tape.trans h.tape,k.output.trans h.output,Nat.le_trans h.size k.size,
  fun i hi hS=>(k.block i (Nat.lt_of_lt_of_le hi h.size) (fun ht=>hS (hT i hi ht))).trans (h.block i hi hS)⟩
theorem Ch.mono {S T:Nat→Prop} {a b:World} (h:Ch S a b) (hT:∀ i,i<a.heap.size→S i→T i):Ch T a b:=
 ⟨h.os,h.tape,h.output,h.size,fun i hi ht=>h.block i hi (fun hs=>ht (hT i hi hs))⟩
theorem Ch.alloc {S:Nat→Prop} {a w:World} (h:Ch S a w) (o:Obj):Ch S a (w.alloc o):=
 ⟨h.os,h.tape,h.output,by simp;have:=h.size;omega,fun i hi hS=>(Below.heap_alloc _ _ _ (Nat.lt_of_lt_of_le hi h.size)).trans (h.block i hi hS)⟩
theorem Ch.drew {S:Nat→Prop} {a w:World} (h:Ch S a w):Ch S a w.drew:=⟨h.os,h.tape,h.output,h.size,h.block⟩
theorem Ch.drewN {S:Nat→Prop} {a w:World} (h:Ch S a w) (n:Nat):Ch S a (w.drewN n):=⟨h.os,h.tape,h.output,h.size,h.block⟩
theorem Ch.setCell {S:Nat→Prop} {a w:World} (h:Ch S a w) {p:Addr} (hp:S p.block∨a.heap.size≤p.block) (u:Value):Ch S a (w.setCell p u):=
 ⟨h.os,h.tape,h.output,by simpa [World.setCell] using h.size,fun i hi hS=>(Below.heap_setCell _ _ _ _ (by
  rintro rfl
  rcases hp with hp|hp
  ·exact hS hp
  ·omega)).trans (h.block i hi hS)⟩
abbrev Ex (w w':World):Prop:=Ch (fun _=>False) w w'
theorem Ex.ch {S:Nat→Prop} {w w':World} (h:Ex w w'):Ch S w w':=h.mono (fun _ _ h=>h.elim)
theorem Ch.ex {S:Nat→Prop} {a b c:World} (h:Ch S a b) (k:Ex b c):Ch S a c:=h.trans' k (fun _ _ h=>h.elim)
theorem Ch.MB {S:Nat→Prop} {a b c:World} (k:Ch S b c) (h:Ch S a b):Ch S a c:=h.trans k
theorem Ch.Wo {S:Nat→Prop} {g:Nat} {a b c:World} (k:Ch (· = g) b c) (h:Ch S a b) (hg:a.heap.size≤g):Ch S a c:=
 ⟨k.os.trans h.os,k.tape.trans h.tape,k.output.trans h.output,Nat.le_trans h.size k.size,fun i hi hS=>(k.block i (Nat.lt_of_lt_of_le hi h.size) (by omega)).trans (h.block i hi hS)⟩
theorem Ex.Iz {w W:World} {n:Nat} (h:w.drewN n=W):Ex w W:=h▸(Ch.refl _ _).drewN n
theorem Ex.below {w w':World} (h:Ex w w'):Below w.heap.size w w':=⟨h.os,h.tape,h.output,h.size,fun k hk=>h.block k hk (fun h=>h)⟩
theorem Ch.cell {S:Nat→Prop} {w w':World} (h:Ch S w w') {p:Addr} (hp:p.block<w.heap.size) (hS:¬S p.block):w'.cell? p=w.cell? p:=
 World.cell?_of_block (w:=w) (h.block p.block hp hS)
theorem Ch.frozen {S:Nat→Prop} {w w':World} (h:Ch S w w') {p:Addr} (hp:p.block<w.heap.size) (hS:¬S p.block):w'.frozen? p=w.frozen? p:=
 World.frozen?_of_block (w:=w) (h.block p.block hp hS)
theorem Ex.rules {W w1:World} {B:Nat} (hb:Ex W w1) (hB:W.heap.size=B) :
  (∀ b o,¬((⟨b,0,none⟩:Addr)=⟨b-B+B,0,none⟩)→w1.cell? ⟨b,o,none⟩=W.cell? ⟨b,o,none⟩) ∧
  (∀ b o,¬((⟨b,0,none⟩:Addr)=⟨b-B+B,0,none⟩)→w1.frozen? ⟨b,o,none⟩=W.frozen? ⟨b,o,none⟩)∧B≤w1.heap.size:=by
 subst hB
 refine⟨fun b o h=>hb.cell (p:=⟨b,o,none⟩) ?_ (fun h=>h),fun b o h=>hb.frozen (p:=⟨b,o,none⟩) ?_ (fun h=>h),hb.size⟩ <;>
 ·simp at h
  show b<_
  omega
theorem Ch.rules {W w1:World} {B g:Nat} (hb:Ch (· = g) W w1) (hB:W.heap.size=B) :
  (∀ b o,¬((⟨b,0,none⟩:Addr)=⟨b-B+B,0,none⟩)→¬((⟨b,0,none⟩:Addr)=⟨g,0,none⟩)→w1.cell? ⟨b,o,none⟩=W.cell? ⟨b,o,none⟩) ∧
  (∀ b o,¬((⟨b,0,none⟩:Addr)=⟨b-B+B,0,none⟩)→¬((⟨b,0,none⟩:Addr)=⟨g,0,none⟩)→w1.frozen? ⟨b,o,none⟩=W.frozen? ⟨b,o,none⟩)∧B≤w1.heap.size:=by
 subst hB
 refine⟨fun b o h h'=>hb.cell (p:=⟨b,o,none⟩) ?_ ?_,fun b o h h'=>hb.frozen (p:=⟨b,o,none⟩) ?_ ?_,hb.size⟩
 all_goals first|(simp at h;show b<_;omega)|(simp at h';exact h')
theorem av {P:Program} {c:Code} {Q:Exit→Act→World→Prop} {a:Act} {w:World} (h:∀ W,Ex w W→c.wp P Q a W):c.wp P Q a w:=h w (Ch.refl _ _)
abbrev Held (W w:World):Prop:=
 (∀ b o,¬((⟨b,0,none⟩:Addr)=⟨b-W.heap.size+W.heap.size,0,none⟩)→w.cell? ⟨b,o,none⟩=W.cell? ⟨b,o,none⟩)∧Ex W w
theorem Held.of {W w:World} (h:Ex W w):Held W w:=⟨(Ex.rules h rfl).1,h⟩
theorem Held.refl (W:World):Held W W:=.of (Ch.refl _ _)
theorem Held.start (W:World):Held W W.drew:=.of (Ch.refl _ _).drew
theorem Held.ex {W w w':World} (h:Held W w) (k:Ex w w'):Held W w':=.of (h.2.trans' k (fun _ _ h=>h))
theorem Held.alloc {W w:World} (h:Held W w) (o:Obj):Held W (w.alloc o):=.of (h.2.alloc o)
theorem Held.drew {W w:World} (h:Held W w):Held W w.drew:=.of h.2.drew
theorem Held.set {W w:World} {p:Addr} {u:Value} (h:Held W w) (hp:W.heap.size≤p.block):Held W (w.setCell p u):=.of (h.2.setCell (.inr hp) u)
abbrev Ce (rb:Nat) (W w:World):Prop:=
 (∀ b o,¬((⟨b,0,none⟩:Addr)=⟨b-W.heap.size+W.heap.size,0,none⟩)→¬((⟨b,0,none⟩:Addr)=⟨rb,0,none⟩)→w.cell? ⟨b,o,none⟩=W.cell? ⟨b,o,none⟩)∧Ch (· = rb) W w
theorem Ce.of {rb:Nat} {W w:World} (h:Ch (· = rb) W w):Ce rb W w:=⟨(Ch.rules h rfl).1,h⟩
theorem Ce.start (rb:Nat) (W:World):Ce rb W W.drew:=.of (Ch.refl _ _).drew
theorem Ce.ex {rb:Nat} {W w w':World} (h:Ce rb W w) (k:Ex w w'):Ce rb W w':=.of (h.2.ex k)
theorem Ce.ch {rb:Nat} {W w w':World} (h:Ce rb W w) (k:Ch (· = rb) w w'):Ce rb W w':=.of (h.2.trans k)
theorem Ce.alloc {rb:Nat} {W w:World} (h:Ce rb W w) (o:Obj):Ce rb W (w.alloc o):=.of (h.2.alloc o)
theorem Ce.set {rb:Nat} {W w:World} {p:Addr} {u:Value} (h:Ce rb W w) (hp:W.heap.size≤p.block):Ce rb W (w.setCell p u):=.of (h.2.setCell (.inr hp) u)
theorem Calls.AR {P:Program} {f:FuncId} {args:Array Value} {w:World} {n:Nat} {v:Value} (h:Calls P f args (w.drewN n) fun E w'=>E=.returned v∧w.drewN n=w') :
  Calls P f args (w.drewN n) fun e w''=>e=.returned v∧∃ m,w''=w.drewN m:=h.mono fun _ _ ⟨he,hm⟩=>⟨he,n,hm.symm⟩
def Lb (w:World) (g n:Nat):Prop:=∃ cs T,w.heap[g]?=some (.cells cs T (0,0))∧cs.size=n
theorem Lb.lt {w:World} {g n:Nat} (h:Lb w g n):g<w.heap.size:=by
 obtain⟨cs,T,h,_⟩:=h
 exact (Array.getElem?_eq_some_iff.1 h).1
theorem Lb.new {w:World} {g n:Nat} {cs:Array Value} {T:TypeId} (hg:g=w.heap.size) (hn:cs.size=n):Lb (w.alloc (.cells cs T)) g n:=by
 subst hg;exact⟨cs,T,heap_alloc_new w _,hn⟩
theorem Lb.alloc {w:World} {g n:Nat} {o:Obj} (h:Lb w g n):Lb (w.alloc o) g n:=by
 have:=h.lt
 obtain⟨cs,T,h,hn⟩:=h
 exact⟨cs,T,(Below.heap_alloc w o g this).trans h,hn⟩
theorem Lb.drew {w:World} {g n:Nat} (h:Lb w g n):Lb w.drew g n:=h
theorem Lb.ex {w w':World} {g n:Nat} (h:Lb w g n) (hb:Ex w w'):Lb w' g n:=by
 have:=h.lt
 obtain⟨cs,T,h,hn⟩:=h
 exact⟨cs,T,(hb.block g this (fun h=>h)).trans h,hn⟩
theorem Lb.MB {S:Nat→Prop} {w w':World} {g n:Nat} (hb:Ch S w w') (h:Lb w g n) (hS:¬S g):Lb w' g n:=by
 have:=h.lt
 obtain⟨cs,T,h,hn⟩:=h
 exact⟨cs,T,(hb.block g this hS).trans h,hn⟩
theorem Lb.low {w w':World} {g n lo:Nat} (hb:∀ b,b<lo→w'.heap[b]?=w.heap[b]?) (hg:g<lo) (h:Lb w g n):Lb w' g n:=by
 obtain⟨cs,T,h,hn⟩:=h
 exact⟨cs,T,(hb g hg).trans h,hn⟩
theorem Lb.set {w:World} {g n:Nat} {p:Addr} {u:Value} (h:Lb w g n):Lb (w.setCell p u) g n:=by
 obtain⟨cs,T,h,hn⟩:=h
 by_cases hp:p.block=g
 ·subst hp
  refine⟨if p.spot.isSome then cs else cs.setIfInBounds p.off u,T,?_,?_⟩
  ·simp[World.setCell,Array.getElem?_modify,h]
  ·split <;> simp[hn]
 ·exact⟨cs,T,(Below.heap_setCell w p u g (fun e=>hp e.symm)).trans h,hn⟩
theorem Lb.G_ {w:World} {g n:Nat} {p:Addr} {u:Value} (h:Lb (w.setCell p u) g n):Lb w g n:=by
 obtain⟨cs,T,h,hn⟩:=h
 by_cases hp:p.block=g
 ·subst hp
  simp only[World.setCell,Array.getElem?_modify,if_true] at h
  cases hh:w.heap[p.block]? with
  | none=>simp[hh] at h
  | some o=>
   rw[hh] at h
   cases o with
   | cells c T' fz=>
    simp only[Option.map_some,Option.some.injEq,Obj.cells.injEq] at h
    obtain⟨h1,h2,h3⟩:=h
    subst h2 h3
    refine⟨c,_,hh,?_⟩
    rw[← hn,← h1]
    split <;> simp
   | _=>simp at h
 ·exact⟨cs,T,(Below.heap_setCell w p u g (fun e=>hp e.symm)).symm.trans h,hn⟩
theorem Lb.Fy {w:World} {g n:Nat} (h:Lb w.drew g n):Lb w g n:=h
def NJ (w:World) (a:Addr):Value:=(w.cell? a).getD undef
theorem Lb.rules {w:World} {g n:Nat} (h:Lb w g n) :
  (∀ i,¬((⟨i,0,none⟩:Addr)=⟨i-n+n,0,none⟩)→w.cell? ⟨g,i,none⟩=some (NJ w ⟨g,i,none⟩))∧(∀ i,w.frozen? ⟨g,i,none⟩=false):=by
 obtain⟨cs,T,h,hn⟩:=h
 refine⟨fun i hi=>?_,fun i=>by simp[World.frozen?,h]⟩
 have hlt:i<cs.size:=by simp at hi;omega
 simp[NJ,World.cell?,h,hlt]
abbrev Au (g n:Nat) (W w:World):Prop:=
 (∀ b o,¬((⟨b,0,none⟩:Addr)=⟨b-W.heap.size+W.heap.size,0,none⟩)→¬((⟨b,0,none⟩:Addr)=⟨g,0,none⟩)→w.cell? ⟨b,o,none⟩=W.cell? ⟨b,o,none⟩) ∧
 (∀ i,¬((⟨i,0,none⟩:Addr)=⟨i-n+n,0,none⟩)→w.cell? ⟨g,i,none⟩=some (NJ w ⟨g,i,none⟩))∧(∀ i,w.frozen? ⟨g,i,none⟩=false)∧Ch (· = g) W w∧Lb w g n
theorem Au.of {g n:Nat} {W w:World} (h:Ch (· = g) W w) (k:Lb w g n):Au g n W w:=⟨(Ch.rules h rfl).1,k.rules.1,k.rules.2,h,k⟩
theorem Au.ch {g n:Nat} {W w:World} (h:Au g n W w):Ch (· = g) W w:=h.2.2.2.1
theorem Au.lb {g n:Nat} {W w:World} (h:Au g n W w):Lb w g n:=h.2.2.2.2
theorem Au.refl {g n:Nat} {W:World} (k:Lb W g n):Au g n W W:=.of (Ch.refl _ _) k
theorem Au.drew {g n:Nat} {W w:World} (h:Au g n W w):Au g n W w.drew:=.of h.2.2.2.1.drew h.2.2.2.2.drew
theorem Au.start {g n:Nat} {W:World} (k:Lb W g n):Au g n W W.drew:=.of (Ch.refl _ _).drew k.drew
theorem Au.ex {g n:Nat} {W w w':World} (h:Au g n W w) (k:Ex w w'):Au g n W w':=.of (h.ch.ex k) (h.lb.ex k)
theorem Au.alloc {g n:Nat} {W w:World} (h:Au g n W w) (o:Obj):Au g n W (w.alloc o):=.of (h.ch.alloc o) h.lb.alloc
theorem Au.set {g n:Nat} {W w:World} {p:Addr} {u:Value} (h:Au g n W w) (hp:p.block=g∨W.heap.size≤p.block):Au g n W (w.setCell p u):=.of (h.ch.setCell hp u) h.lb.set
abbrev D9 (g n h m:Nat) (W w:World):Prop:=
 (∀ b o,¬((⟨b,0,none⟩:Addr)=⟨b-W.heap.size+W.heap.size,0,none⟩)→¬((⟨b,0,none⟩:Addr)=⟨g,0,none⟩)→¬((⟨b,0,none⟩:Addr)=⟨h,0,none⟩)→w.cell? ⟨b,o,none⟩=W.cell? ⟨b,o,none⟩) ∧
 (∀ i,¬((⟨i,0,none⟩:Addr)=⟨i-n+n,0,none⟩)→w.cell? ⟨g,i,none⟩=some (NJ w ⟨g,i,none⟩))∧(∀ i,w.frozen? ⟨g,i,none⟩=false) ∧
 (∀ i,¬((⟨i,0,none⟩:Addr)=⟨i-m+m,0,none⟩)→w.cell? ⟨h,i,none⟩=some (NJ w ⟨h,i,none⟩))∧(∀ i,w.frozen? ⟨h,i,none⟩=false)∧Ch (fun k=>k=g∨k=h) W w∧Lb w g n∧Lb w h m
theorem D9.of {g n h m:Nat} {W w:World} (c:Ch (fun k=>k=g∨k=h) W w) (k:Lb w g n) (l:Lb w h m):D9 g n h m W w:=by
 refine⟨fun b o h1 h2 h3=>c.cell (p:=⟨b,o,none⟩) ?_ ?_,k.rules.1,k.rules.2,l.rules.1,l.rules.2,c,k,l⟩
 ·simp at h1
  show b<_
  omega
 ·simp at h2 h3
  show ¬(b=g∨b=h)
  omega
theorem D9.ch {g n h m:Nat} {W w:World} (k:D9 g n h m W w):Ch (fun k=>k=g∨k=h) W w:=k.2.2.2.2.2.1
theorem D9.lb {g n h m:Nat} {W w:World} (k:D9 g n h m W w):Lb w g n:=k.2.2.2.2.2.2.1
theorem D9.lc {g n h m:Nat} {W w:World} (k:D9 g n h m W w):Lb w h m:=k.2.2.2.2.2.2.2
theorem D9.refl {g n h m:Nat} {W:World} (k:Lb W g n) (l:Lb W h m):D9 g n h m W W:=.of (Ch.refl _ _) k l
theorem D9.start {g n h m:Nat} {W:World} (k:Lb W g n) (l:Lb W h m):D9 g n h m W W.drew:=.of (Ch.refl _ _).drew k.drew l.drew
theorem D9.drew {g n h m:Nat} {W w:World} (k:D9 g n h m W w):D9 g n h m W w.drew:=.of k.ch.drew k.lb.drew k.lc.drew
theorem D9.ex {g n h m:Nat} {W w w':World} (k:D9 g n h m W w) (e:Ex w w'):D9 g n h m W w':=.of (k.ch.ex e) (k.lb.ex e) (k.lc.ex e)
theorem D9.alloc {g n h m:Nat} {W w:World} (k:D9 g n h m W w) (o:Obj):D9 g n h m W (w.alloc o):=.of (k.ch.alloc o) k.lb.alloc k.lc.alloc
theorem D9.set {g n h m:Nat} {W w:World} {p:Addr} {u:Value} (k:D9 g n h m W w) (hp:(p.block=g∨p.block=h)∨W.heap.size≤p.block):D9 g n h m W (w.setCell p u):=.of (k.ch.setCell hp u) k.lb.set k.lc.set
theorem A9 {b B:Nat} (h:¬((⟨b,0,none⟩:Addr)=⟨b-B+B,0,none⟩)):b<B:=by
 simp at h;omega
@[go_sem] theorem mE (w:World) (p:Addr) (u:Value):(w.setCell p u).heap.size=w.heap.size:=World.size_setCell _ _ _
@[go_sem] theorem gY (w:World) (n:Nat):(w.drewN n).heap.size=w.heap.size:=rfl
@[go_sem] theorem ig (w:World):w.drew.heap.size=w.heap.size:=rfl
@[go_sem] theorem mX (w:World) (o0:Obj) (b i:Nat) (h:¬((⟨b,0,none⟩:Addr)=⟨b-w.heap.size+w.heap.size,0,none⟩)):(w.alloc o0).cell? ⟨b,i,none⟩=w.cell? ⟨b,i,none⟩:=by
 have hb:=A9 h
 rw[World.cell?_alloc_lt _ _ _ (by (try simp only[World.size_alloc]);omega)]
@[go_sem] theorem iR (w:World) (o0:Obj) (b i:Nat) (h:¬((⟨b,0,none⟩:Addr)=⟨b-w.heap.size+w.heap.size,0,none⟩)):(w.alloc o0).frozen? ⟨b,i,none⟩=w.frozen? ⟨b,i,none⟩:=by
 have hb:=A9 h
 rw[World.frozen?_alloc_past _ _ _ (by (try simp only[World.size_alloc]);omega)]
@[go_sem] theorem mW (w:World) (o0 o1:Obj) (b i:Nat) (h:¬((⟨b,0,none⟩:Addr)=⟨b-w.heap.size+w.heap.size,0,none⟩)):((w.alloc o0).alloc o1).cell? ⟨b,i,none⟩=w.cell? ⟨b,i,none⟩:=by
 have hb:=A9 h
 rw[World.cell?_alloc_lt _ _ _ (by (try simp only[World.size_alloc]);omega)]
 rw[World.cell?_alloc_lt _ _ _ (by (try simp only[World.size_alloc]);omega)]
@[go_sem] theorem iQ (w:World) (o0 o1:Obj) (b i:Nat) (h:¬((⟨b,0,none⟩:Addr)=⟨b-w.heap.size+w.heap.size,0,none⟩)):((w.alloc o0).alloc o1).frozen? ⟨b,i,none⟩=w.frozen? ⟨b,i,none⟩:=by
 have hb:=A9 h
 rw[World.frozen?_alloc_past _ _ _ (by (try simp only[World.size_alloc]);omega)]
 rw[World.frozen?_alloc_past _ _ _ (by (try simp only[World.size_alloc]);omega)]
@[go_sem] theorem mV (w:World) (o0 o1 o2:Obj) (b i:Nat) (h:¬((⟨b,0,none⟩:Addr)=⟨b-w.heap.size+w.heap.size,0,none⟩)):(((w.alloc o0).alloc o1).alloc o2).cell? ⟨b,i,none⟩=w.cell? ⟨b,i,none⟩:=by
 have hb:=A9 h
 rw[World.cell?_alloc_lt _ _ _ (by (try simp only[World.size_alloc]);omega)]
 rw[World.cell?_alloc_lt _ _ _ (by (try simp only[World.size_alloc]);omega)]
 rw[World.cell?_alloc_lt _ _ _ (by (try simp only[World.size_alloc]);omega)]
@[go_sem] theorem iO (w:World) (o0 o1 o2:Obj) (b i:Nat) (h:¬((⟨b,0,none⟩:Addr)=⟨b-w.heap.size+w.heap.size,0,none⟩)):(((w.alloc o0).alloc o1).alloc o2).frozen? ⟨b,i,none⟩=w.frozen? ⟨b,i,none⟩:=by
 have hb:=A9 h
 rw[World.frozen?_alloc_past _ _ _ (by (try simp only[World.size_alloc]);omega)]
 rw[World.frozen?_alloc_past _ _ _ (by (try simp only[World.size_alloc]);omega)]
 rw[World.frozen?_alloc_past _ _ _ (by (try simp only[World.size_alloc]);omega)]
@[go_sem] theorem mU (w:World) (o0 o1 o2 o3:Obj) (b i:Nat) (h:¬((⟨b,0,none⟩:Addr)=⟨b-w.heap.size+w.heap.size,0,none⟩)):((((w.alloc o0).alloc o1).alloc o2).alloc o3).cell? ⟨b,i,none⟩=w.cell? ⟨b,i,none⟩:=by
 have hb:=A9 h
 rw[World.cell?_alloc_lt _ _ _ (by (try simp only[World.size_alloc]);omega)]
 rw[World.cell?_alloc_lt _ _ _ (by (try simp only[World.size_alloc]);omega)]
 rw[World.cell?_alloc_lt _ _ _ (by (try simp only[World.size_alloc]);omega)]
 rw[World.cell?_alloc_lt _ _ _ (by (try simp only[World.size_alloc]);omega)]
@[go_sem] theorem iM (w:World) (o0 o1 o2 o3:Obj) (b i:Nat) (h:¬((⟨b,0,none⟩:Addr)=⟨b-w.heap.size+w.heap.size,0,none⟩)):((((w.alloc o0).alloc o1).alloc o2).alloc o3).frozen? ⟨b,i,none⟩=w.frozen? ⟨b,i,none⟩:=by
 have hb:=A9 h
 rw[World.frozen?_alloc_past _ _ _ (by (try simp only[World.size_alloc]);omega)]
 rw[World.frozen?_alloc_past _ _ _ (by (try simp only[World.size_alloc]);omega)]
 rw[World.frozen?_alloc_past _ _ _ (by (try simp only[World.size_alloc]);omega)]
 rw[World.frozen?_alloc_past _ _ _ (by (try simp only[World.size_alloc]);omega)]
@[go_sem] theorem mR (w:World) (o0 o1 o2 o3 o4:Obj) (b i:Nat) (h:¬((⟨b,0,none⟩:Addr)=⟨b-w.heap.size+w.heap.size,0,none⟩)):(((((w.alloc o0).alloc o1).alloc o2).alloc o3).alloc o4).cell? ⟨b,i,none⟩=w.cell? ⟨b,i,none⟩:=by
 have hb:=A9 h
 rw[World.cell?_alloc_lt _ _ _ (by (try simp only[World.size_alloc]);omega)]
 rw[World.cell?_alloc_lt _ _ _ (by (try simp only[World.size_alloc]);omega)]
 rw[World.cell?_alloc_lt _ _ _ (by (try simp only[World.size_alloc]);omega)]
 rw[World.cell?_alloc_lt _ _ _ (by (try simp only[World.size_alloc]);omega)]
 rw[World.cell?_alloc_lt _ _ _ (by (try simp only[World.size_alloc]);omega)]
@[go_sem] theorem iK (w:World) (o0 o1 o2 o3 o4:Obj) (b i:Nat) (h:¬((⟨b,0,none⟩:Addr)=⟨b-w.heap.size+w.heap.size,0,none⟩)):(((((w.alloc o0).alloc o1).alloc o2).alloc o3).alloc o4).frozen? ⟨b,i,none⟩=w.frozen? ⟨b,i,none⟩:=by
 have hb:=A9 h
 rw[World.frozen?_alloc_past _ _ _ (by (try simp only[World.size_alloc]);omega)]
 rw[World.frozen?_alloc_past _ _ _ (by (try simp only[World.size_alloc]);omega)]
 rw[World.frozen?_alloc_past _ _ _ (by (try simp only[World.size_alloc]);omega)]
 rw[World.frozen?_alloc_past _ _ _ (by (try simp only[World.size_alloc]);omega)]
 rw[World.frozen?_alloc_past _ _ _ (by (try simp only[World.size_alloc]);omega)]
@[go_sem] theorem mQ (w:World) (o0 o1 o2 o3 o4 o5:Obj) (b i:Nat) (h:¬((⟨b,0,none⟩:Addr)=⟨b-w.heap.size+w.heap.size,0,none⟩)):((((((w.alloc o0).alloc o1).alloc o2).alloc o3).alloc o4).alloc o5).cell? ⟨b,i,none⟩=w.cell? ⟨b,i,none⟩:=by
 have hb:=A9 h
 rw[World.cell?_alloc_lt _ _ _ (by (try simp only[World.size_alloc]);omega)]
 rw[World.cell?_alloc_lt _ _ _ (by (try simp only[World.size_alloc]);omega)]
 rw[World.cell?_alloc_lt _ _ _ (by (try simp only[World.size_alloc]);omega)]
 rw[World.cell?_alloc_lt _ _ _ (by (try simp only[World.size_alloc]);omega)]
 rw[World.cell?_alloc_lt _ _ _ (by (try simp only[World.size_alloc]);omega)]
 rw[World.cell?_alloc_lt _ _ _ (by (try simp only[World.size_alloc]);omega)]
@[go_sem] theorem iJ (w:World) (o0 o1 o2 o3 o4 o5:Obj) (b i:Nat) (h:¬((⟨b,0,none⟩:Addr)=⟨b-w.heap.size+w.heap.size,0,none⟩)):((((((w.alloc o0).alloc o1).alloc o2).alloc o3).alloc o4).alloc o5).frozen? ⟨b,i,none⟩=w.frozen? ⟨b,i,none⟩:=by
 have hb:=A9 h
 rw[World.frozen?_alloc_past _ _ _ (by (try simp only[World.size_alloc]);omega)]
 rw[World.frozen?_alloc_past _ _ _ (by (try simp only[World.size_alloc]);omega)]
 rw[World.frozen?_alloc_past _ _ _ (by (try simp only[World.size_alloc]);omega)]
 rw[World.frozen?_alloc_past _ _ _ (by (try simp only[World.size_alloc]);omega)]
 rw[World.frozen?_alloc_past _ _ _ (by (try simp only[World.size_alloc]);omega)]
 rw[World.frozen?_alloc_past _ _ _ (by (try simp only[World.size_alloc]);omega)]
@[go_sem] theorem pR (w:World) (p:Addr) (u:Value) (o0:Obj) (b i:Nat) (h:¬((⟨b,0,none⟩:Addr)=⟨b-w.heap.size+w.heap.size,0,none⟩)):((w.setCell p u).alloc o0).cell? ⟨b,i,none⟩=(w.setCell p u).cell? ⟨b,i,none⟩:=by
 have hb:=A9 h
 rw[World.cell?_alloc_lt _ _ _ (by (try simp only[World.size_alloc,World.size_setCell]);omega)]
@[go_sem] theorem pQ (w:World) (p:Addr) (u:Value) (o0 o1:Obj) (b i:Nat) (h:¬((⟨b,0,none⟩:Addr)=⟨b-w.heap.size+w.heap.size,0,none⟩)):(((w.setCell p u).alloc o0).alloc o1).cell? ⟨b,i,none⟩=(w.setCell p u).cell? ⟨b,i,none⟩:=by
 have hb:=A9 h
 rw[World.cell?_alloc_lt _ _ _ (by (try simp only[World.size_alloc,World.size_setCell]);omega)]
 rw[World.cell?_alloc_lt _ _ _ (by (try simp only[World.size_alloc,World.size_setCell]);omega)]
@[go_sem] theorem pO (w:World) (p:Addr) (u:Value) (o0 o1 o2:Obj) (b i:Nat) (h:¬((⟨b,0,none⟩:Addr)=⟨b-w.heap.size+w.heap.size,0,none⟩)):((((w.setCell p u).alloc o0).alloc o1).alloc o2).cell? ⟨b,i,none⟩=(w.setCell p u).cell? ⟨b,i,none⟩:=by
 have hb:=A9 h
 rw[World.cell?_alloc_lt _ _ _ (by (try simp only[World.size_alloc,World.size_setCell]);omega)]
 rw[World.cell?_alloc_lt _ _ _ (by (try simp only[World.size_alloc,World.size_setCell]);omega)]
 rw[World.cell?_alloc_lt _ _ _ (by (try simp only[World.size_alloc,World.size_setCell]);omega)]
@[go_sem] theorem qa (w:World) (p0:Addr) (u0:Value) (o0:Obj) (b i:Nat) (h:¬((⟨b,0,none⟩:Addr)=⟨b-w.heap.size+w.heap.size,0,none⟩)):((w.setCell p0 u0).alloc o0).frozen? ⟨b,i,none⟩=(w.setCell p0 u0).frozen? ⟨b,i,none⟩:=by
 have hb:=A9 h
 rw[World.frozen?_alloc_past _ _ _ (by (try simp only[World.size_alloc,World.size_setCell]);omega)]
@[go_sem] theorem qZ (w:World) (p0:Addr) (u0:Value) (o0 o1:Obj) (b i:Nat) (h:¬((⟨b,0,none⟩:Addr)=⟨b-w.heap.size+w.heap.size,0,none⟩)):(((w.setCell p0 u0).alloc o0).alloc o1).frozen? ⟨b,i,none⟩=(w.setCell p0 u0).frozen? ⟨b,i,none⟩:=by
 have hb:=A9 h
 rw[World.frozen?_alloc_past _ _ _ (by (try simp only[World.size_alloc,World.size_setCell]);omega)]
 rw[World.frozen?_alloc_past _ _ _ (by (try simp only[World.size_alloc,World.size_setCell]);omega)]
@[go_sem] theorem qY (w:World) (p0:Addr) (u0:Value) (o0 o1 o2:Obj) (b i:Nat) (h:¬((⟨b,0,none⟩:Addr)=⟨b-w.heap.size+w.heap.size,0,none⟩)):((((w.setCell p0 u0).alloc o0).alloc o1).alloc o2).frozen? ⟨b,i,none⟩=(w.setCell p0 u0).frozen? ⟨b,i,none⟩:=by
 have hb:=A9 h
 rw[World.frozen?_alloc_past _ _ _ (by (try simp only[World.size_alloc,World.size_setCell]);omega)]
 rw[World.frozen?_alloc_past _ _ _ (by (try simp only[World.size_alloc,World.size_setCell]);omega)]
 rw[World.frozen?_alloc_past _ _ _ (by (try simp only[World.size_alloc,World.size_setCell]);omega)]
@[go_sem] theorem qX (w:World) (p0:Addr) (u0:Value) (p1:Addr) (u1:Value) (o0:Obj) (b i:Nat) (h:¬((⟨b,0,none⟩:Addr)=⟨b-w.heap.size+w.heap.size,0,none⟩)):(((w.setCell p0 u0).setCell p1 u1).alloc o0).cell? ⟨b,i,none⟩=((w.setCell p0 u0).setCell p1 u1).cell? ⟨b,i,none⟩:=by
 have hb:=A9 h
 rw[World.cell?_alloc_lt _ _ _ (by (try simp only[World.size_alloc,World.size_setCell]);omega)]
@[go_sem] theorem qW (w:World) (p0:Addr) (u0:Value) (p1:Addr) (u1:Value) (o0:Obj) (b i:Nat) (h:¬((⟨b,0,none⟩:Addr)=⟨b-w.heap.size+w.heap.size,0,none⟩)):(((w.setCell p0 u0).setCell p1 u1).alloc o0).frozen? ⟨b,i,none⟩=((w.setCell p0 u0).setCell p1 u1).frozen? ⟨b,i,none⟩:=by
 have hb:=A9 h
 rw[World.frozen?_alloc_past _ _ _ (by (try simp only[World.size_alloc,World.size_setCell]);omega)]
@[go_sem] theorem qV (w:World) (p0:Addr) (u0:Value) (p1:Addr) (u1:Value) (o0 o1:Obj) (b i:Nat) (h:¬((⟨b,0,none⟩:Addr)=⟨b-w.heap.size+w.heap.size,0,none⟩)):((((w.setCell p0 u0).setCell p1 u1).alloc o0).alloc o1).cell? ⟨b,i,none⟩=((w.setCell p0 u0).setCell p1 u1).cell? ⟨b,i,none⟩:=by
 have hb:=A9 h
 rw[World.cell?_alloc_lt _ _ _ (by (try simp only[World.size_alloc,World.size_setCell]);omega)]
 rw[World.cell?_alloc_lt _ _ _ (by (try simp only[World.size_alloc,World.size_setCell]);omega)]
@[go_sem] theorem qU (w:World) (p0:Addr) (u0:Value) (p1:Addr) (u1:Value) (o0 o1:Obj) (b i:Nat) (h:¬((⟨b,0,none⟩:Addr)=⟨b-w.heap.size+w.heap.size,0,none⟩)):((((w.setCell p0 u0).setCell p1 u1).alloc o0).alloc o1).frozen? ⟨b,i,none⟩=((w.setCell p0 u0).setCell p1 u1).frozen? ⟨b,i,none⟩:=by
 have hb:=A9 h
 rw[World.frozen?_alloc_past _ _ _ (by (try simp only[World.size_alloc,World.size_setCell]);omega)]
 rw[World.frozen?_alloc_past _ _ _ (by (try simp only[World.size_alloc,World.size_setCell]);omega)]
@[go_sem] theorem qR (w:World) (p0:Addr) (u0:Value) (p1:Addr) (u1:Value) (o0 o1 o2:Obj) (b i:Nat) (h:¬((⟨b,0,none⟩:Addr)=⟨b-w.heap.size+w.heap.size,0,none⟩)):(((((w.setCell p0 u0).setCell p1 u1).alloc o0).alloc o1).alloc o2).cell? ⟨b,i,none⟩=((w.setCell p0 u0).setCell p1 u1).cell? ⟨b,i,none⟩:=by
 have hb:=A9 h
 rw[World.cell?_alloc_lt _ _ _ (by (try simp only[World.size_alloc,World.size_setCell]);omega)]
 rw[World.cell?_alloc_lt _ _ _ (by (try simp only[World.size_alloc,World.size_setCell]);omega)]
 rw[World.cell?_alloc_lt _ _ _ (by (try simp only[World.size_alloc,World.size_setCell]);omega)]
@[go_sem] theorem qQ (w:World) (p0:Addr) (u0:Value) (p1:Addr) (u1:Value) (o0 o1 o2:Obj) (b i:Nat) (h:¬((⟨b,0,none⟩:Addr)=⟨b-w.heap.size+w.heap.size,0,none⟩)):(((((w.setCell p0 u0).setCell p1 u1).alloc o0).alloc o1).alloc o2).frozen? ⟨b,i,none⟩=((w.setCell p0 u0).setCell p1 u1).frozen? ⟨b,i,none⟩:=by
 have hb:=A9 h
 rw[World.frozen?_alloc_past _ _ _ (by (try simp only[World.size_alloc,World.size_setCell]);omega)]
 rw[World.frozen?_alloc_past _ _ _ (by (try simp only[World.size_alloc,World.size_setCell]);omega)]
 rw[World.frozen?_alloc_past _ _ _ (by (try simp only[World.size_alloc,World.size_setCell]);omega)]
@[go_sem] theorem qP (w:World) (p0:Addr) (u0:Value) (p1:Addr) (u1:Value) (p2:Addr) (u2:Value) (o0:Obj) (b i:Nat) (h:¬((⟨b,0,none⟩:Addr)=⟨b-w.heap.size+w.heap.size,0,none⟩)):((((w.setCell p0 u0).setCell p1 u1).setCell p2 u2).alloc o0).cell? ⟨b,i,none⟩=(((w.setCell p0 u0).setCell p1 u1).setCell p2 u2).cell? ⟨b,i,none⟩:=by
 have hb:=A9 h
 rw[World.cell?_alloc_lt _ _ _ (by (try simp only[World.size_alloc,World.size_setCell]);omega)]
@[go_sem] theorem qO (w:World) (p0:Addr) (u0:Value) (p1:Addr) (u1:Value) (p2:Addr) (u2:Value) (o0:Obj) (b i:Nat) (h:¬((⟨b,0,none⟩:Addr)=⟨b-w.heap.size+w.heap.size,0,none⟩)):((((w.setCell p0 u0).setCell p1 u1).setCell p2 u2).alloc o0).frozen? ⟨b,i,none⟩=(((w.setCell p0 u0).setCell p1 u1).setCell p2 u2).frozen? ⟨b,i,none⟩:=by
 have hb:=A9 h
 rw[World.frozen?_alloc_past _ _ _ (by (try simp only[World.size_alloc,World.size_setCell]);omega)]
@[go_sem] theorem qM (w:World) (p0:Addr) (u0:Value) (p1:Addr) (u1:Value) (p2:Addr) (u2:Value) (o0 o1:Obj) (b i:Nat) (h:¬((⟨b,0,none⟩:Addr)=⟨b-w.heap.size+w.heap.size,0,none⟩)):(((((w.setCell p0 u0).setCell p1 u1).setCell p2 u2).alloc o0).alloc o1).cell? ⟨b,i,none⟩=(((w.setCell p0 u0).setCell p1 u1).setCell p2 u2).cell? ⟨b,i,none⟩:=by
 have hb:=A9 h
 rw[World.cell?_alloc_lt _ _ _ (by (try simp only[World.size_alloc,World.size_setCell]);omega)]
 rw[World.cell?_alloc_lt _ _ _ (by (try simp only[World.size_alloc,World.size_setCell]);omega)]
@[go_sem] theorem qL (w:World) (p0:Addr) (u0:Value) (p1:Addr) (u1:Value) (p2:Addr) (u2:Value) (o0 o1:Obj) (b i:Nat) (h:¬((⟨b,0,none⟩:Addr)=⟨b-w.heap.size+w.heap.size,0,none⟩)):(((((w.setCell p0 u0).setCell p1 u1).setCell p2 u2).alloc o0).alloc o1).frozen? ⟨b,i,none⟩=(((w.setCell p0 u0).setCell p1 u1).setCell p2 u2).frozen? ⟨b,i,none⟩:=by
 have hb:=A9 h
 rw[World.frozen?_alloc_past _ _ _ (by (try simp only[World.size_alloc,World.size_setCell]);omega)]
 rw[World.frozen?_alloc_past _ _ _ (by (try simp only[World.size_alloc,World.size_setCell]);omega)]
@[go_sem] theorem qK (w:World) (p0:Addr) (u0:Value) (p1:Addr) (u1:Value) (p2:Addr) (u2:Value) (o0 o1 o2:Obj) (b i:Nat) (h:¬((⟨b,0,none⟩:Addr)=⟨b-w.heap.size+w.heap.size,0,none⟩)):((((((w.setCell p0 u0).setCell p1 u1).setCell p2 u2).alloc o0).alloc o1).alloc o2).cell? ⟨b,i,none⟩=(((w.setCell p0 u0).setCell p1 u1).setCell p2 u2).cell? ⟨b,i,none⟩:=by
 have hb:=A9 h
 rw[World.cell?_alloc_lt _ _ _ (by (try simp only[World.size_alloc,World.size_setCell]);omega)]
 rw[World.cell?_alloc_lt _ _ _ (by (try simp only[World.size_alloc,World.size_setCell]);omega)]
 rw[World.cell?_alloc_lt _ _ _ (by (try simp only[World.size_alloc,World.size_setCell]);omega)]
@[go_sem] theorem qJ (w:World) (p0:Addr) (u0:Value) (p1:Addr) (u1:Value) (p2:Addr) (u2:Value) (o0 o1 o2:Obj) (b i:Nat) (h:¬((⟨b,0,none⟩:Addr)=⟨b-w.heap.size+w.heap.size,0,none⟩)):((((((w.setCell p0 u0).setCell p1 u1).setCell p2 u2).alloc o0).alloc o1).alloc o2).frozen? ⟨b,i,none⟩=(((w.setCell p0 u0).setCell p1 u1).setCell p2 u2).frozen? ⟨b,i,none⟩:=by
 have hb:=A9 h
 rw[World.frozen?_alloc_past _ _ _ (by (try simp only[World.size_alloc,World.size_setCell]);omega)]
 rw[World.frozen?_alloc_past _ _ _ (by (try simp only[World.size_alloc,World.size_setCell]);omega)]
 rw[World.frozen?_alloc_past _ _ _ (by (try simp only[World.size_alloc,World.size_setCell]);omega)]
@[go_sem] theorem qI (w:World) (p0:Addr) (u0:Value) (p1:Addr) (u1:Value) (p2:Addr) (u2:Value) (p3:Addr) (u3:Value) (o0:Obj) (b i:Nat) (h:¬((⟨b,0,none⟩:Addr)=⟨b-w.heap.size+w.heap.size,0,none⟩)):(((((w.setCell p0 u0).setCell p1 u1).setCell p2 u2).setCell p3 u3).alloc o0).cell? ⟨b,i,none⟩=((((w.setCell p0 u0).setCell p1 u1).setCell p2 u2).setCell p3 u3).cell? ⟨b,i,none⟩:=by
 have hb:=A9 h
 rw[World.cell?_alloc_lt _ _ _ (by (try simp only[World.size_alloc,World.size_setCell]);omega)]
@[go_sem] theorem qH (w:World) (p0:Addr) (u0:Value) (p1:Addr) (u1:Value) (p2:Addr) (u2:Value) (p3:Addr) (u3:Value) (o0:Obj) (b i:Nat) (h:¬((⟨b,0,none⟩:Addr)=⟨b-w.heap.size+w.heap.size,0,none⟩)):(((((w.setCell p0 u0).setCell p1 u1).setCell p2 u2).setCell p3 u3).alloc o0).frozen? ⟨b,i,none⟩=((((w.setCell p0 u0).setCell p1 u1).setCell p2 u2).setCell p3 u3).frozen? ⟨b,i,none⟩:=by
 have hb:=A9 h
 rw[World.frozen?_alloc_past _ _ _ (by (try simp only[World.size_alloc,World.size_setCell]);omega)]
@[go_sem] theorem qG (w:World) (p0:Addr) (u0:Value) (p1:Addr) (u1:Value) (p2:Addr) (u2:Value) (p3:Addr) (u3:Value) (o0 o1:Obj) (b i:Nat) (h:¬((⟨b,0,none⟩:Addr)=⟨b-w.heap.size+w.heap.size,0,none⟩)):((((((w.setCell p0 u0).setCell p1 u1).setCell p2 u2).setCell p3 u3).alloc o0).alloc o1).cell? ⟨b,i,none⟩=((((w.setCell p0 u0).setCell p1 u1).setCell p2 u2).setCell p3 u3).cell? ⟨b,i,none⟩:=by
 have hb:=A9 h
 rw[World.cell?_alloc_lt _ _ _ (by (try simp only[World.size_alloc,World.size_setCell]);omega)]
 rw[World.cell?_alloc_lt _ _ _ (by (try simp only[World.size_alloc,World.size_setCell]);omega)]
@[go_sem] theorem qF (w:World) (p0:Addr) (u0:Value) (p1:Addr) (u1:Value) (p2:Addr) (u2:Value) (p3:Addr) (u3:Value) (o0 o1:Obj) (b i:Nat) (h:¬((⟨b,0,none⟩:Addr)=⟨b-w.heap.size+w.heap.size,0,none⟩)):((((((w.setCell p0 u0).setCell p1 u1).setCell p2 u2).setCell p3 u3).alloc o0).alloc o1).frozen? ⟨b,i,none⟩=((((w.setCell p0 u0).setCell p1 u1).setCell p2 u2).setCell p3 u3).frozen? ⟨b,i,none⟩:=by
 have hb:=A9 h
 rw[World.frozen?_alloc_past _ _ _ (by (try simp only[World.size_alloc,World.size_setCell]);omega)]
 rw[World.frozen?_alloc_past _ _ _ (by (try simp only[World.size_alloc,World.size_setCell]);omega)]
@[go_sem] theorem qE (w:World) (p0:Addr) (u0:Value) (p1:Addr) (u1:Value) (p2:Addr) (u2:Value) (p3:Addr) (u3:Value) (o0 o1 o2:Obj) (b i:Nat) (h:¬((⟨b,0,none⟩:Addr)=⟨b-w.heap.size+w.heap.size,0,none⟩)):(((((((w.setCell p0 u0).setCell p1 u1).setCell p2 u2).setCell p3 u3).alloc o0).alloc o1).alloc o2).cell? ⟨b,i,none⟩=((((w.setCell p0 u0).setCell p1 u1).setCell p2 u2).setCell p3 u3).cell? ⟨b,i,none⟩:=by
 have hb:=A9 h
 rw[World.cell?_alloc_lt _ _ _ (by (try simp only[World.size_alloc,World.size_setCell]);omega)]
 rw[World.cell?_alloc_lt _ _ _ (by (try simp only[World.size_alloc,World.size_setCell]);omega)]
 rw[World.cell?_alloc_lt _ _ _ (by (try simp only[World.size_alloc,World.size_setCell]);omega)]
@[go_sem] theorem qD (w:World) (p0:Addr) (u0:Value) (p1:Addr) (u1:Value) (p2:Addr) (u2:Value) (p3:Addr) (u3:Value) (o0 o1 o2:Obj) (b i:Nat) (h:¬((⟨b,0,none⟩:Addr)=⟨b-w.heap.size+w.heap.size,0,none⟩)):(((((((w.setCell p0 u0).setCell p1 u1).setCell p2 u2).setCell p3 u3).alloc o0).alloc o1).alloc o2).frozen? ⟨b,i,none⟩=((((w.setCell p0 u0).setCell p1 u1).setCell p2 u2).setCell p3 u3).frozen? ⟨b,i,none⟩:=by
 have hb:=A9 h
 rw[World.frozen?_alloc_past _ _ _ (by (try simp only[World.size_alloc,World.size_setCell]);omega)]
 rw[World.frozen?_alloc_past _ _ _ (by (try simp only[World.size_alloc,World.size_setCell]);omega)]
 rw[World.frozen?_alloc_past _ _ _ (by (try simp only[World.size_alloc,World.size_setCell]);omega)]
@[go_sem] theorem qC (w:World) (p0:Addr) (u0:Value) (p1:Addr) (u1:Value) (p2:Addr) (u2:Value) (p3:Addr) (u3:Value) (p4:Addr) (u4:Value) (o0:Obj) (b i:Nat) (h:¬((⟨b,0,none⟩:Addr)=⟨b-w.heap.size+w.heap.size,0,none⟩)):((((((w.setCell p0 u0).setCell p1 u1).setCell p2 u2).setCell p3 u3).setCell p4 u4).alloc o0).cell? ⟨b,i,none⟩=(((((w.setCell p0 u0).setCell p1 u1).setCell p2 u2).setCell p3 u3).setCell p4 u4).cell? ⟨b,i,none⟩:=by
 have hb:=A9 h
 rw[World.cell?_alloc_lt _ _ _ (by (try simp only[World.size_alloc,World.size_setCell]);omega)]
@[go_sem] theorem qB (w:World) (p0:Addr) (u0:Value) (p1:Addr) (u1:Value) (p2:Addr) (u2:Value) (p3:Addr) (u3:Value) (p4:Addr) (u4:Value) (o0:Obj) (b i:Nat) (h:¬((⟨b,0,none⟩:Addr)=⟨b-w.heap.size+w.heap.size,0,none⟩)):((((((w.setCell p0 u0).setCell p1 u1).setCell p2 u2).setCell p3 u3).setCell p4 u4).alloc o0).frozen? ⟨b,i,none⟩=(((((w.setCell p0 u0).setCell p1 u1).setCell p2 u2).setCell p3 u3).setCell p4 u4).frozen? ⟨b,i,none⟩:=by
 have hb:=A9 h
 rw[World.frozen?_alloc_past _ _ _ (by (try simp only[World.size_alloc,World.size_setCell]);omega)]
@[go_sem] theorem qA (w:World) (p0:Addr) (u0:Value) (p1:Addr) (u1:Value) (p2:Addr) (u2:Value) (p3:Addr) (u3:Value) (p4:Addr) (u4:Value) (o0 o1:Obj) (b i:Nat) (h:¬((⟨b,0,none⟩:Addr)=⟨b-w.heap.size+w.heap.size,0,none⟩)):(((((((w.setCell p0 u0).setCell p1 u1).setCell p2 u2).setCell p3 u3).setCell p4 u4).alloc o0).alloc o1).cell? ⟨b,i,none⟩=(((((w.setCell p0 u0).setCell p1 u1).setCell p2 u2).setCell p3 u3).setCell p4 u4).cell? ⟨b,i,none⟩:=by
 have hb:=A9 h
 rw[World.cell?_alloc_lt _ _ _ (by (try simp only[World.size_alloc,World.size_setCell]);omega)]
 rw[World.cell?_alloc_lt _ _ _ (by (try simp only[World.size_alloc,World.size_setCell]);omega)]
@[go_sem] theorem p_ (w:World) (p0:Addr) (u0:Value) (p1:Addr) (u1:Value) (p2:Addr) (u2:Value) (p3:Addr) (u3:Value) (p4:Addr) (u4:Value) (o0 o1:Obj) (b i:Nat) (h:¬((⟨b,0,none⟩:Addr)=⟨b-w.heap.size+w.heap.size,0,none⟩)):(((((((w.setCell p0 u0).setCell p1 u1).setCell p2 u2).setCell p3 u3).setCell p4 u4).alloc o0).alloc o1).frozen? ⟨b,i,none⟩=(((((w.setCell p0 u0).setCell p1 u1).setCell p2 u2).setCell p3 u3).setCell p4 u4).frozen? ⟨b,i,none⟩:=by
 have hb:=A9 h
 rw[World.frozen?_alloc_past _ _ _ (by (try simp only[World.size_alloc,World.size_setCell]);omega)]
 rw[World.frozen?_alloc_past _ _ _ (by (try simp only[World.size_alloc,World.size_setCell]);omega)]
@[go_sem] theorem pz (w:World) (p0:Addr) (u0:Value) (p1:Addr) (u1:Value) (p2:Addr) (u2:Value) (p3:Addr) (u3:Value) (p4:Addr) (u4:Value) (o0 o1 o2:Obj) (b i:Nat) (h:¬((⟨b,0,none⟩:Addr)=⟨b-w.heap.size+w.heap.size,0,none⟩)):((((((((w.setCell p0 u0).setCell p1 u1).setCell p2 u2).setCell p3 u3).setCell p4 u4).alloc o0).alloc o1).alloc o2).cell? ⟨b,i,none⟩=(((((w.setCell p0 u0).setCell p1 u1).setCell p2 u2).setCell p3 u3).setCell p4 u4).cell? ⟨b,i,none⟩:=by
 have hb:=A9 h
 rw[World.cell?_alloc_lt _ _ _ (by (try simp only[World.size_alloc,World.size_setCell]);omega)]
 rw[World.cell?_alloc_lt _ _ _ (by (try simp only[World.size_alloc,World.size_setCell]);omega)]
 rw[World.cell?_alloc_lt _ _ _ (by (try simp only[World.size_alloc,World.size_setCell]);omega)]
@[go_sem] theorem pq (w:World) (p0:Addr) (u0:Value) (p1:Addr) (u1:Value) (p2:Addr) (u2:Value) (p3:Addr) (u3:Value) (p4:Addr) (u4:Value) (o0 o1 o2:Obj) (b i:Nat) (h:¬((⟨b,0,none⟩:Addr)=⟨b-w.heap.size+w.heap.size,0,none⟩)):((((((((w.setCell p0 u0).setCell p1 u1).setCell p2 u2).setCell p3 u3).setCell p4 u4).alloc o0).alloc o1).alloc o2).frozen? ⟨b,i,none⟩=(((((w.setCell p0 u0).setCell p1 u1).setCell p2 u2).setCell p3 u3).setCell p4 u4).frozen? ⟨b,i,none⟩:=by
 have hb:=A9 h
 rw[World.frozen?_alloc_past _ _ _ (by (try simp only[World.size_alloc,World.size_setCell]);omega)]
 rw[World.frozen?_alloc_past _ _ _ (by (try simp only[World.size_alloc,World.size_setCell]);omega)]
 rw[World.frozen?_alloc_past _ _ _ (by (try simp only[World.size_alloc,World.size_setCell]);omega)]
@[go_sem] theorem pg (w:World) (p0:Addr) (u0:Value) (p1:Addr) (u1:Value) (p2:Addr) (u2:Value) (p3:Addr) (u3:Value) (p4:Addr) (u4:Value) (p5:Addr) (u5:Value) (o0:Obj) (b i:Nat) (h:¬((⟨b,0,none⟩:Addr)=⟨b-w.heap.size+w.heap.size,0,none⟩)):(((((((w.setCell p0 u0).setCell p1 u1).setCell p2 u2).setCell p3 u3).setCell p4 u4).setCell p5 u5).alloc o0).cell? ⟨b,i,none⟩=((((((w.setCell p0 u0).setCell p1 u1).setCell p2 u2).setCell p3 u3).setCell p4 u4).setCell p5 u5).cell? ⟨b,i,none⟩:=by
 have hb:=A9 h
 rw[World.cell?_alloc_lt _ _ _ (by (try simp only[World.size_alloc,World.size_setCell]);omega)]
@[go_sem] theorem pY (w:World) (p0:Addr) (u0:Value) (p1:Addr) (u1:Value) (p2:Addr) (u2:Value) (p3:Addr) (u3:Value) (p4:Addr) (u4:Value) (p5:Addr) (u5:Value) (o0:Obj) (b i:Nat) (h:¬((⟨b,0,none⟩:Addr)=⟨b-w.heap.size+w.heap.size,0,none⟩)):(((((((w.setCell p0 u0).setCell p1 u1).setCell p2 u2).setCell p3 u3).setCell p4 u4).setCell p5 u5).alloc o0).frozen? ⟨b,i,none⟩=((((((w.setCell p0 u0).setCell p1 u1).setCell p2 u2).setCell p3 u3).setCell p4 u4).setCell p5 u5).frozen? ⟨b,i,none⟩:=by
 have hb:=A9 h
 rw[World.frozen?_alloc_past _ _ _ (by (try simp only[World.size_alloc,World.size_setCell]);omega)]
@[go_sem] theorem pX (w:World) (p0:Addr) (u0:Value) (p1:Addr) (u1:Value) (p2:Addr) (u2:Value) (p3:Addr) (u3:Value) (p4:Addr) (u4:Value) (p5:Addr) (u5:Value) (o0 o1:Obj) (b i:Nat) (h:¬((⟨b,0,none⟩:Addr)=⟨b-w.heap.size+w.heap.size,0,none⟩)):((((((((w.setCell p0 u0).setCell p1 u1).setCell p2 u2).setCell p3 u3).setCell p4 u4).setCell p5 u5).alloc o0).alloc o1).cell? ⟨b,i,none⟩=((((((w.setCell p0 u0).setCell p1 u1).setCell p2 u2).setCell p3 u3).setCell p4 u4).setCell p5 u5).cell? ⟨b,i,none⟩:=by
 have hb:=A9 h
 rw[World.cell?_alloc_lt _ _ _ (by (try simp only[World.size_alloc,World.size_setCell]);omega)]
 rw[World.cell?_alloc_lt _ _ _ (by (try simp only[World.size_alloc,World.size_setCell]);omega)]
@[go_sem] theorem pW (w:World) (p0:Addr) (u0:Value) (p1:Addr) (u1:Value) (p2:Addr) (u2:Value) (p3:Addr) (u3:Value) (p4:Addr) (u4:Value) (p5:Addr) (u5:Value) (o0 o1:Obj) (b i:Nat) (h:¬((⟨b,0,none⟩:Addr)=⟨b-w.heap.size+w.heap.size,0,none⟩)):((((((((w.setCell p0 u0).setCell p1 u1).setCell p2 u2).setCell p3 u3).setCell p4 u4).setCell p5 u5).alloc o0).alloc o1).frozen? ⟨b,i,none⟩=((((((w.setCell p0 u0).setCell p1 u1).setCell p2 u2).setCell p3 u3).setCell p4 u4).setCell p5 u5).frozen? ⟨b,i,none⟩:=by
 have hb:=A9 h
 rw[World.frozen?_alloc_past _ _ _ (by (try simp only[World.size_alloc,World.size_setCell]);omega)]
 rw[World.frozen?_alloc_past _ _ _ (by (try simp only[World.size_alloc,World.size_setCell]);omega)]
@[go_sem] theorem pV (w:World) (p0:Addr) (u0:Value) (p1:Addr) (u1:Value) (p2:Addr) (u2:Value) (p3:Addr) (u3:Value) (p4:Addr) (u4:Value) (p5:Addr) (u5:Value) (o0 o1 o2:Obj) (b i:Nat) (h:¬((⟨b,0,none⟩:Addr)=⟨b-w.heap.size+w.heap.size,0,none⟩)):(((((((((w.setCell p0 u0).setCell p1 u1).setCell p2 u2).setCell p3 u3).setCell p4 u4).setCell p5 u5).alloc o0).alloc o1).alloc o2).cell? ⟨b,i,none⟩=((((((w.setCell p0 u0).setCell p1 u1).setCell p2 u2).setCell p3 u3).setCell p4 u4).setCell p5 u5).cell? ⟨b,i,none⟩:=by
 have hb:=A9 h
 rw[World.cell?_alloc_lt _ _ _ (by (try simp only[World.size_alloc,World.size_setCell]);omega)]
 rw[World.cell?_alloc_lt _ _ _ (by (try simp only[World.size_alloc,World.size_setCell]);omega)]
 rw[World.cell?_alloc_lt _ _ _ (by (try simp only[World.size_alloc,World.size_setCell]);omega)]
@[go_sem] theorem pU (w:World) (p0:Addr) (u0:Value) (p1:Addr) (u1:Value) (p2:Addr) (u2:Value) (p3:Addr) (u3:Value) (p4:Addr) (u4:Value) (p5:Addr) (u5:Value) (o0 o1 o2:Obj) (b i:Nat) (h:¬((⟨b,0,none⟩:Addr)=⟨b-w.heap.size+w.heap.size,0,none⟩)):(((((((((w.setCell p0 u0).setCell p1 u1).setCell p2 u2).setCell p3 u3).setCell p4 u4).setCell p5 u5).alloc o0).alloc o1).alloc o2).frozen? ⟨b,i,none⟩=((((((w.setCell p0 u0).setCell p1 u1).setCell p2 u2).setCell p3 u3).setCell p4 u4).setCell p5 u5).frozen? ⟨b,i,none⟩:=by
 have hb:=A9 h
 rw[World.frozen?_alloc_past _ _ _ (by (try simp only[World.size_alloc,World.size_setCell]);omega)]
 rw[World.frozen?_alloc_past _ _ _ (by (try simp only[World.size_alloc,World.size_setCell]);omega)]
 rw[World.frozen?_alloc_past _ _ _ (by (try simp only[World.size_alloc,World.size_setCell]);omega)]
structure Rd (w:World) (lo:Nat) (A:Option Addr) (c sz n:Nat) (cs:List Value):Prop where
 len:cs.length=n*sz
 le:n≤c
 cap:c≤maxLen
 nil:A=none→c=0
 cells:∀ a,A=some a→0<n→a.spot=none∧lo≤a.block∧a.block<w.heap.size∧∀ j u,cs[j]?=some u→w.cell? ⟨a.block,a.off+j,none⟩=some u
theorem Rd.none_ (w:World) (lo sz:Nat):Rd w lo none 0 sz 0 []:=⟨by simp,Nat.le_refl _,Nat.zero_le _,fun _=>rfl,fun _ h=>by cases h⟩
structure KF (lo:Nat) (w w':World):Prop where
 size:w.heap.size≤w'.heap.size
 block:∀ b,lo≤b→b<w.heap.size→w'.heap[b]?=w.heap[b]?
theorem KF.refl (lo:Nat) (w:World):KF lo w w:=⟨Nat.le_refl _,fun _ _ _=>rfl⟩
theorem KF.alloc {lo:Nat} {a w:World} {o:Obj} (h:KF lo a w):KF lo a (w.alloc o):=
 ⟨by simp;have:=h.size;omega,fun i hl hi=>(Below.heap_alloc _ _ _ (Nat.lt_of_lt_of_le hi h.size)).trans (h.block i hl hi)⟩
theorem KF.drew {lo:Nat} {a w:World} (h:KF lo a w):KF lo a w.drew:=⟨h.size,h.block⟩
theorem KF.drewN {lo:Nat} {a w:World} {n:Nat} (h:KF lo a w):KF lo a (w.drewN n):=⟨h.size,h.block⟩
theorem KF.setCell {lo:Nat} {a w:World} {p:Addr} {u:Value} (h:KF lo a w) (hp:p.block<lo∨a.heap.size≤p.block):KF lo a (w.setCell p u):=
 ⟨by simpa [World.setCell] using h.size,fun i hl hi=>(Below.heap_setCell _ _ _ _ (by rintro rfl;omega)).trans (h.block i hl hi)⟩
theorem KF.ex {lo:Nat} {a w w':World} (hb:Ex w w') (h:KF lo a w):KF lo a w':=
 ⟨Nat.le_trans h.size hb.size,fun i hl hi=>(hb.block i (Nat.lt_of_lt_of_le hi h.size) (fun h=>h)).trans (h.block i hl hi)⟩
theorem KF.ch {S:Nat→Prop} {lo:Nat} {a w w':World} (hb:Ch S w w') (h:KF lo a w) (hS:∀ i,S i→i<lo∨a.heap.size≤i):KF lo a w':=
 ⟨Nat.le_trans h.size hb.size,fun i hl hi=>(hb.block i (Nat.lt_of_lt_of_le hi h.size) (fun hs=>by have:=hS i hs;omega)).trans (h.block i hl hi)⟩
theorem KF.zW {g lo:Nat} {a w w':World} (hb:Ch (· = g) w w') (h:KF lo a w) (hS:g<lo∨a.heap.size≤g):KF lo a w':=KF.ch hb h (fun i hi=>by rw[show i=g from hi];exact hS)
theorem zA {w:World} {o:Obj}:(w.alloc o).heap.size=w.heap.size+1:=World.size_alloc _ _
theorem zC {w:World} {a:Addr} {v:Value}:(w.setCell a v).heap.size=w.heap.size:=World.size_setCell _ _ _
theorem zD {w:World}:w.drew.heap.size=w.heap.size:=rfl
theorem zN {w:World} {n:Nat}:(w.drewN n).heap.size=w.heap.size:=rfl
theorem BO:(∀ (w:World) (o:Obj),(w.alloc o).heap.size=w.heap.size+1)∧(∀ (w:World) (a:Addr) (v:Value),(w.setCell a v).heap.size=w.heap.size)∧(∀ w:World,w.drew.heap.size=w.heap.size)∧(∀ (w:World) (n:Nat),(w.drewN n).heap.size=w.heap.size):=
 ⟨fun _ _=>World.size_alloc _ _,fun _ _ _=>World.size_setCell _ _ _,fun _=>rfl,fun _ _=>rfl⟩
theorem DN:(∀ (xs:List Value) (i:Nat) (v:Value),xs.toArray.setIfInBounds i v=(xs.set i v).toArray)∧(∀ (x:Value) (xs:List Value) (v:Value),(x::xs).set 0 v=v::xs)∧(∀ (x:Value) (xs:List Value) (n:Nat) (v:Value),(x::xs).set (n+1) v=x::xs.set n v)∧(∀ (xs:List Bool) (i:Nat) (v:Bool),xs.toArray.setIfInBounds i v=(xs.set i v).toArray)∧(∀ (x:Bool) (xs:List Bool) (v:Bool),(x::xs).set 0 v=v::xs)∧(∀ (x:Bool) (xs:List Bool) (n:Nat) (v:Bool),(x::xs).set (n+1) v=x::xs.set n v):=
 ⟨fun _ _ _=>List.setIfInBounds_toArray ..,fun _ _ _=>rfl,fun _ _ _ _=>rfl,fun _ _ _=>List.setIfInBounds_toArray ..,fun _ _ _=>rfl,fun _ _ _ _=>rfl⟩
theorem kR (lo:Nat) (w:World):KF lo w w:=KF.refl lo w
theorem kA {lo:Nat} {a w:World} {o:Obj} (h:KF lo a w):KF lo a (w.alloc o):=h.alloc
theorem kD {lo:Nat} {a w:World} (h:KF lo a w):KF lo a w.drew:=h.drew
theorem kN {lo:Nat} {a w:World} {n:Nat} (h:KF lo a w):KF lo a (w.drewN n):=h.drewN
theorem kS {lo:Nat} {a w:World} {p:Addr} {u:Value} (h:KF lo a w) (hp:p.block<lo∨a.heap.size≤p.block):KF lo a (w.setCell p u):=h.setCell hp
theorem kE {lo:Nat} {a w w':World} (hb:Ex w w') (h:KF lo a w):KF lo a w':=KF.ex hb h
theorem kC {g lo:Nat} {a w w':World} (hb:Ch (· = g) w w') (h:KF lo a w) (hS:g<lo∨a.heap.size≤g):KF lo a w':=KF.zW hb h hS
theorem cR (S:Nat→Prop) (w:World):Ch S w w:=Ch.refl S w
theorem cA {S:Nat→Prop} {a w:World} {o:Obj} (h:Ch S a w):Ch S a (w.alloc o):=h.alloc o
theorem cD {S:Nat→Prop} {a w:World} (h:Ch S a w):Ch S a w.drew:=h.drew
theorem cN {S:Nat→Prop} {a w:World} {n:Nat} (h:Ch S a w):Ch S a (w.drewN n):=h.drewN n
theorem cS {S:Nat→Prop} {a w:World} {p:Addr} (h:Ch S a w) (hp:S p.block∨a.heap.size≤p.block) (u:Value):Ch S a (w.setCell p u):=h.setCell hp u
theorem cE {S:Nat→Prop} {a b c:World} (k:Ex b c) (h:Ch S a b):Ch S a c:=h.ex k
theorem cK {S:Nat→Prop} {a b c:World} (k:Ch S b c) (h:Ch S a b):Ch S a c:=h.trans k
theorem cG {S:Nat→Prop} {g:Nat} {a b c:World} (k:Ch (· = g) b c) (h:Ch S a b) (hg:a.heap.size≤g):Ch S a c:=Ch.Wo k h hg
theorem xr {W w1:World} (hb:Ex W w1) :
  (∀ b o,¬((⟨b,0,none⟩:Addr)=⟨b-W.heap.size+W.heap.size,0,none⟩)→w1.cell? ⟨b,o,none⟩=W.cell? ⟨b,o,none⟩) ∧
  (∀ b o,¬((⟨b,0,none⟩:Addr)=⟨b-W.heap.size+W.heap.size,0,none⟩)→w1.frozen? ⟨b,o,none⟩=W.frozen? ⟨b,o,none⟩)∧W.heap.size≤w1.heap.size:=Ex.rules hb rfl
theorem xc {W w1:World} {g:Nat} (hb:Ch (· = g) W w1) :
  (∀ b o,¬((⟨b,0,none⟩:Addr)=⟨b-W.heap.size+W.heap.size,0,none⟩)→¬((⟨b,0,none⟩:Addr)=⟨g,0,none⟩)→w1.cell? ⟨b,o,none⟩=W.cell? ⟨b,o,none⟩) ∧
  (∀ b o,¬((⟨b,0,none⟩:Addr)=⟨b-W.heap.size+W.heap.size,0,none⟩)→¬((⟨b,0,none⟩:Addr)=⟨g,0,none⟩)→w1.frozen? ⟨b,o,none⟩=W.frozen? ⟨b,o,none⟩)∧W.heap.size≤w1.heap.size:=Ch.rules hb rfl
section
variable {w w':World} {lo lo' c sz n:Nat} {A:Option Addr} {cs:List Value}
theorem Rd.keep (h:Rd w lo A c sz n cs) (hk:KF lo w w'):Rd w' lo A c sz n cs:=
 ⟨h.len,h.le,h.cap,h.nil,fun a ha hn=>by
  obtain⟨h1,h2,h3,h4⟩:=h.cells a ha hn
  exact⟨h1,h2,Nat.lt_of_lt_of_le h3 hk.size,fun j u hu=>(World.cell?_of_block (w:=w) (a:=⟨a.block,a.off+j,none⟩) (hk.block a.block h2 h3)).trans (h4 j u hu)⟩⟩
theorem Rd.less (h:Rd w lo A c sz n cs) (hl:lo'≤lo):Rd w lo' A c sz n cs:=
 ⟨h.len,h.le,h.cap,h.nil,fun a ha hn=>by
  obtain⟨h1,h2,h3,h4⟩:=h.cells a ha hn
  exact⟨h1,Nat.le_trans hl h2,h3,h4⟩⟩
theorem Rd.Y6 {base:Nat} {e:TypeId} (h:w.ownsRow base e sz (.slice A n c) n cs):Rd w base A c sz n cs:=by
 refine⟨h.1,?_,?_,?_,?_⟩
 ·rcases h.2 with⟨hv,h0⟩ | ⟨g,cap,cur,hv,hb,hh,hn,hm,hs,ht⟩
  ·injection hv;omega
  ·injection hv;omega
 ·rcases h.2 with⟨hv,h0⟩ | ⟨g,cap,cur,hv,hb,hh,hn,hm,hs,ht⟩
  ·injection hv with _ _ h;subst h;exact Nat.zero_le _
  ·injection hv with _ _ h;subst h;exact hm
 ·intro hA
  rcases h.2 with⟨hv,h0⟩ | ⟨g,cap,cur,hv,hb,hh,hn,hm,hs,ht⟩
  ·injection hv
  ·injection hv with h;rw[hA] at h;cases h
 ·intro a hA _
  subst hA
  rcases h.2 with⟨hv,h0⟩ | ⟨g,cap,cur,hv,hb,hh,hn,hm,hs,ht⟩
  ·injection hv with h;cases h
  ·injection hv with h1 h2 h3
   obtain rfl:=Option.some.inj h1
   refine⟨rfl,hb,(Array.getElem?_eq_some_iff.1 hh).1,fun j u hu=>?_⟩
   have:=h.cells (g:=g) rfl j u hu
   rw[Addr.add_lit] at this
   exact this
end
theorem AO {p:Prop} (h:p:=by with_reducible repeat (first|exact kR _ _|apply kA|apply kD|apply kN|(refine kS ?_ (by first|omega|(simp only[BO];omega)))|(apply kE;assumption)|(refine kC (by assumption) ?_ (by first|omega|(simp only[BO];omega))))):p:=h
theorem AA {p:Prop} (h:p:=by (with_reducible repeat (first|exact cR _ _|apply cA|apply cD|apply cN|(refine cS ?_ (Or.inr (by first|omega|(simp only[BO];omega))) _)|(apply cE;assumption)|(apply cK;assumption)|(refine cG (by assumption) ?_ (by first|omega|(simp only[BO];omega)))))):p:=h
theorem Aq {p:Prop} (h:p:=by (first|omega|(simp only[BO];omega)|(simp only[BO] at *;omega))):p:=h
theorem Dw {p:Prop} (h:p:=by (repeat (first|with_reducible assumption|with_reducible exact Lb.new (by first|rfl|(simp only[BO];done)) (by with_unfolding_all rfl)|with_reducible apply Lb.alloc|with_reducible apply Lb.set|with_reducible apply Lb.drew|(with_reducible refine Lb.ex ?_ (by assumption))))):p:=h
theorem xy {W w1:World} {B:Nat} (hb:Ex W w1) (hB:W.heap.size=B:=by (try simp only[BO]);rfl):(∀ b o,¬((⟨b,0,none⟩:Addr)=⟨b-B+B,0,none⟩)→w1.cell? ⟨b,o,none⟩=W.cell? ⟨b,o,none⟩)∧(∀ b o,¬((⟨b,0,none⟩:Addr)=⟨b-B+B,0,none⟩)→w1.frozen? ⟨b,o,none⟩=W.frozen? ⟨b,o,none⟩)∧B≤w1.heap.size:=Ex.rules hb hB
theorem xd {W w1:World} {B g:Nat} (hb:Ch (· = g) W w1) (hB:W.heap.size=B:=by (try simp only[BO]);rfl):(∀ b o,¬((⟨b,0,none⟩:Addr)=⟨b-B+B,0,none⟩)→¬((⟨b,0,none⟩:Addr)=⟨g,0,none⟩)→w1.cell? ⟨b,o,none⟩=W.cell? ⟨b,o,none⟩)∧(∀ b o,¬((⟨b,0,none⟩:Addr)=⟨b-B+B,0,none⟩)→¬((⟨b,0,none⟩:Addr)=⟨g,0,none⟩)→w1.frozen? ⟨b,o,none⟩=W.frozen? ⟨b,o,none⟩)∧B≤w1.heap.size:=Ch.rules hb hB
theorem xh {W w1:World} {B:Nat} (hb:Held W w1) (hB:W.heap.size=B:=by (try simp only[BO]);rfl):Ex W w1∧(∀ b o,¬((⟨b,0,none⟩:Addr)=⟨b-B+B,0,none⟩)→w1.cell? ⟨b,o,none⟩=W.cell? ⟨b,o,none⟩)∧(∀ b o,¬((⟨b,0,none⟩:Addr)=⟨b-B+B,0,none⟩)→w1.frozen? ⟨b,o,none⟩=W.frozen? ⟨b,o,none⟩)∧B≤w1.heap.size:=⟨hb.2,Ex.rules hb.2 hB⟩
theorem CF {P:Program} {c:Code} {Q:Exit→Act→World→Prop} {a:Act} {w:World} {B:Nat} (h:∀ W,Ex w W→(∀ b o,¬((⟨b,0,none⟩:Addr)=⟨b-B+B,0,none⟩)→W.cell? ⟨b,o,none⟩=w.cell? ⟨b,o,none⟩)→(∀ b o,¬((⟨b,0,none⟩:Addr)=⟨b-B+B,0,none⟩)→W.frozen? ⟨b,o,none⟩=w.frozen? ⟨b,o,none⟩)→B≤W.heap.size→c.wp P Q a W) (hB:w.heap.size=B:=by (try simp only[BO]);rfl):c.wp P Q a w:=av fun W hb=>h W hb (Ex.rules hb hB).1 (Ex.rules hb hB).2.1 (Ex.rules hb hB).2.2
theorem Bt {p:Prop} (h:p:=by ((first|(apply Rs.A8;assumption)|(apply Ow.Es;assumption)|(apply CK.Es;assumption));exact AO)):p:=h
theorem Gd {p:Prop} (h:p:=by (repeat (first|with_reducible assumption|with_reducible exact Lb.new (by first|rfl|(simp only[BO];done)) (by with_unfolding_all rfl)|with_reducible apply Lb.alloc|with_reducible apply Lb.set|with_reducible apply Lb.drew|(with_reducible refine Lb.ex ?_ (by assumption))|(refine Lb.MB (S:=fun k=>k=rb) (by with_reducible assumption) ?_ (by show ¬ _=rb;omega))))):p:=h
theorem gy {p:Prop} (h:p:=by (repeat (first|with_reducible assumption|exact Ints.new (zs:=[_,_,_]) (by first|with_reducible rfl|omega) rfl rfl|exact Ints.new (zs:=[_,_,_,_]) (by first|with_reducible rfl|omega) rfl rfl|exact Ints.new (zs:=[_,_,_,_,_,_]) (by first|with_reducible rfl|omega) rfl rfl|with_reducible apply Ints.alloc|with_reducible apply Ints.drew|(with_reducible refine Ints.set ?_ rfl)|(with_reducible refine Ints.ch (by assumption) (by first|omega|(simp only[BO];omega)) ?_)))):p:=h
theorem Im {p:Prop} (h:p:=by (repeat (first|with_reducible assumption|exact Ints.new (zs:=[_,_,_,_,_,_]) (by first|with_reducible rfl|omega|(simp only[BO];done)|(simp only[BO];omega)) rfl rfl|exact Ints.new (zs:=[_,_,_]) (by first|with_reducible rfl|omega|(simp only[BO];done)|(simp only[BO];omega)) rfl rfl|exact Ints.new (zs:=[_,_,_,_]) (by first|with_reducible rfl|omega|(simp only[BO];done)|(simp only[BO];omega)) rfl rfl|with_reducible apply Ints.alloc|with_reducible apply Ints.drew|(with_reducible refine Ints.set ?_ rfl)|(with_reducible refine Ints.ch (by assumption) (by first|exact (fun h=>h)|omega|(simp only[BO];omega)) ?_)))):p:=h
theorem Bu {p:Prop} (h:p:=by (first|assumption|omega)):p:=h
theorem Iy {p:Prop} (h:p:=by (first|assumption|exact Ow.nil _ _|(apply Ow.keep;assumption;exact AO)|(refine PX))):p:=h
theorem Jg {p:Prop} (h:p:=by ((first|(apply RM.A8;assumption)|(apply Cn.rE;assumption));exact AO)):p:=h
theorem FU {p:Prop} (h:p:=by (first|with_reducible assumption|with_reducible exact Held.start _|with_reducible exact Held.of (by assumption)|with_reducible exact Held.ex (by assumption) (by assumption)|((repeat (first|with_reducible refine Held.set ?_ (by simp only[zA,zC,zD,zN];omega)|with_reducible refine Held.alloc ?_ _|with_reducible refine Held.drew ?_));(first|with_reducible assumption|with_reducible exact Held.refl _|with_reducible exact Held.of (by assumption)|with_reducible exact Held.ex (by assumption) (by assumption)))|exact Held.of (by exact AA))):p:=h
theorem EX {p:Prop} (h:p:=by (first|with_reducible assumption|with_reducible exact Au.start JR|with_reducible exact Au.of (by assumption) (by assumption)|((repeat (first|with_reducible refine Au.set ?_ (by first|exact Or.inl rfl|exact Or.inr (by simp only[zA,zC,zD,zN];omega)|exact Or.inr (by omega))|with_reducible refine Au.alloc ?_ _|with_reducible refine Au.drew ?_));(first|with_reducible assumption|with_reducible exact Au.refl JR|with_reducible exact Au.of (by assumption) (by assumption)|with_reducible exact Au.ex (by assumption) (by assumption))))):p:=h
theorem Ak {p:Prop} (h:p:=by (go_simp;first|done|simp[*])):p:=h
end Go.Proofs.YtgaflnpmilikcaaGreat

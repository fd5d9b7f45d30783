/- Texts joined: Model, Model2, Reg. -/
import Derived.RowKit
import Derived.Deep.RegionHeld3
set_option maxRecDepth 100000
set_option linter.unusedSimpArgs false
set_option linter.unusedVariables false
namespace Go.Proofs.YtgaflnpmilikcaaGreat.Sw
open Go.RowKit (wrap64)
def Br (n lo hi:Int):Bool:=decide (lo≤n)&&decide (n≤hi)
def BK (n:Int):Bool:=Br n 0 65520
def pair (a b:Int):Int:=(a*8191+b*127+a*b+31)%65521
def Oa (a b:Int):Int:=if BK a&&BK b then pair a b else 0
def Gm (x n:Int):Int:=(x*4099+n%65521+11)%65521
def Gl (x:Int) (l:List Int):Int:=l.foldl Gm x
def JH (l:List Int):Int:=(Gl 7 l*31+l.length)%65521
def DW (l:List Int):Bool:=decide (l.length≤40)&&l.all BK
def split (n:Nat):Nat:=2 ^ Nat.log2 (n-1)
def nC (n:Int):Int:=if Br n 2 40 then split n.toNat else 0
theorem FJ {n:Nat} (h:2≤n):split n<n:=by
 unfold split
 have:=Nat.log2_self_le (n:=n-1) (by omega)
 omega
theorem EL (n:Nat):0<split n:=by unfold split;exact Nat.two_pow_pos _
def root:List Int→Int
 | []=>5
 | [x]=>x
 | x::y::r=>
  pair (root ((x::y::r).take (split (r.length+2)))) (root ((x::y::r).drop (split (r.length+2))))
termination_by l=>l.length
decreasing_by
 ·have:=FJ (n:=r.length+2) (by omega);simp only[List.length_take,List.length_cons];omega
 ·have:=EL (r.length+2);simp only[List.length_drop,List.length_cons];omega
def KI (l:List Int):Int:=if DW l then root l else 0
def Ll:Nat→List Int→Nat→List Int
 | 0,_,_=>[]
 | n+1,l,i=>
  if l.length≤1 then []
  else if i<split l.length then Ll n (l.take (split l.length)) i ++ [root (l.drop (split l.length))]
  else Ll n (l.drop (split l.length)) (i-split l.length) ++ [root (l.take (split l.length))]
def Mk (l:List Int) (i:Nat):List Int:=Ll l.length l i
def Ia (l:List Int) (i:Int):List Int:=if DW l&&Br i 0 (l.length-1) then Mk l i.toNat else []
def LA:Nat→Nat→Int→List Int→Int × Bool
 | n,_,leaf,[]=>if n≤1 then (leaf,true) else (0,false)
 | n,i,leaf,last::rest=>
  if n≤1 then (leaf,false)
  else if i<split n then (pair (LA (split n) i leaf rest).1 last,(LA (split n) i leaf rest).2)
  else (pair last (LA (n-split n) (i-split n) leaf rest).1,(LA (n-split n) (i-split n) leaf rest).2)
def up (n i:Nat) (leaf:Int) (proof:List Int):Int × Bool:=LA n i leaf proof.reverse
def EW (n i leaf:Int) (proof:List Int):Option Int:=
 if Br n 1 40&&Br i 0 (n-1)&&BK leaf&&DW proof&&(up n.toNat i.toNat leaf proof).2 then some (up n.toNat i.toNat leaf proof).1 else none
def Jw (r n i leaf:Int) (proof:List Int):Bool:=EW n i leaf proof==some r
def grow:Nat→List Int→Nat→Bool→List Int
 | 0,_,_,_=>[]
 | n+1,l,m,known=>
  if m=l.length then (if known then [] else [root l])
  else if m≤split l.length then grow n (l.take (split l.length)) m known ++ [root (l.drop (split l.length))]
  else grow n (l.drop (split l.length)) (m-split l.length) false ++ [root (l.take (split l.length))]
def growth (l:List Int) (m:Nat) (known:Bool):List Int:=grow l.length l m known
def Dx (l:List Int) (m:Int):List Int:=if DW l&&Br m 1 l.length then growth l m.toNat true else []
def Ke:Nat→Nat→Int→List Int→Bool→Option (Int × Int)
 | m,n,old,[],known=>if m=n∧known=true then some (old,old) else none
 | m,n,old,last::rest,known=>
  if m=n then (if known=true then none else if rest=[] then some (last,last) else none)
  else if m≤split n then (Ke m (split n) old rest known).map fun r=>(r.1,pair r.2 last)
  else (Ke (m-split n) (n-split n) old rest false).map fun r=>(pair last r.1,pair last r.2)
def Fg (m old n r:Int) (proof:List Int):Bool:=
 Br n 1 40&&Br m 1 n&&BK old&&BK r&&DW proof&&Ke m.toNat n.toNat old proof.reverse true==some (old,r)
structure FC where
 kind:Int
 ticket:Int
 who:Int
 Al:Int
 deriving DecidableEq
structure Row where
 who:Int
 EY:Int
 used:Bool
 deriving DecidableEq
def nJ:Row:=⟨0,0,false⟩
def C9 (f:Int):Int:=if Br f 1 50 then f+f / 5 else 0
def GI (e:FC):Bool:=
 Br e.ticket 0 7&&Br e.who 1 5 &&
  (if e.kind=1 then Br e.Al 1 50 else if e.kind=2 then Br e.Al 1 60 else decide (e.kind=3)&&decide (e.Al=0))
def EF (e:FC):Int:=JH [e.kind,e.ticket,e.who,e.Al]
def rowOk (r:Row):Bool:=(decide (r.who=0)&&decide (r.EY=0) && !r.used)||(Br r.who 1 5&&Br r.EY 1 50)
def EH (rows:List Row):Bool:=rows.all rowOk&&decide (rows.length=8)
def rowAt (rows:List Row) (t:Int):Row:=rows.getD t.toNat nJ
def DI (r:Row) (e:FC):Bool:=
 if e.kind=1 then decide (r.who=0)
 else if e.kind=2 then decide (r.who≠0)&&decide (r.who≠e.who) && !r.used&&decide (e.Al≤C9 r.EY)
 else decide (r.who=e.who) && !r.used
def Bn (rows:List Row) (e:FC):Bool:=EH rows&&GI e&&DI (rowAt rows e.ticket) e
def putRow (r:Row) (e:FC):Row:=
 if e.kind=1 then ⟨e.who,e.Al,r.used⟩ else if e.kind=2 then ⟨e.who,r.EY,r.used⟩ else ⟨r.who,r.EY,true⟩
def JE (rows:List Row) (e:FC):List Row:=rows.set e.ticket.toNat (putRow (rowAt rows e.ticket) e)
def JV (rows:List Row) (e:FC):List Row:=if Bn rows e then JE rows e else rows
def Qs:List Row:=List.replicate 8 nJ
def DY:List Row→List FC→Option (List Row)
 | rows,[]=>some rows
 | rows,e::es=>if Bn rows e then DY (JE rows e) es else none
def Bq (l:List FC):Option (List Row):=if l.length≤40 then DY Qs l else none
def FM (t:Int) (r:Row):Int:=if Br t 0 7 then JH [1000+t,r.who,r.EY,if r.used then 1 else 0] else 0
def D6:Int→List Row→List Int
 | _,[]=>[]
 | t,r::rs=>FM t r::D6 (t+1) rs
def C_ (rows:List Row):List Int:=D6 0 rows
def ownRoot (rows:List Row):Int:=if EH rows then root (C_ rows) else 0
def Dl (rows:List Row) (t:Int):List Int:=if EH rows&&Br t 0 7 then Mk (C_ rows) t.toNat else []
def Hu (r t:Int) (row:Row) (proof:List Int):Bool:=Br t 0 7&&Jw r 8 t (FM t row) proof
structure Head where
 size:Int
 log:Int
 own:Int
 deriving DecidableEq
def DX:Head:=⟨0,0,0⟩
def E9 (h:Head):Bool:=Br h.size 0 40&&BK h.log&&BK h.own
def Cw (l:List FC):Option Head:=(Bq l).map fun rows=>⟨l.length,root (l.map EF),ownRoot rows⟩
def TG (a b:Head):Bool:=E9 a&&E9 b&&decide (a.size=b.size)&&decide (a≠b)
def CU (old h:Head) (proof:List Int):Bool:=
 E9 old&&E9 h&&decide (old.size≤h.size)&&(decide (old.size≠h.size)||decide (old=h)) &&
  (if old.size=0 then proof.isEmpty else Fg old.size old.log h.size h.log proof)
def Dn (l:List FC) (size:Int):List Int:=if decide (l.length≤40) then Dx (l.map EF) size else []
def J_ (l:List FC) (size:Int):Option Head:=if Br size 0 l.length then Cw (l.take size.toNat) else none
structure Gate where
 head:Head
 done:List Int
 deriving DecidableEq
def Ra:Gate:=⟨DX,[]⟩
def DT:Int→List Int→Bool
 | _,[]=>true
 | p,x::xs=>Br x 0 7&&decide (p<x)&&DT x xs
def DF (g:Gate):Bool:=E9 g.head&&DT (-1) g.done
def Ck (g:Gate) (h:Head) (proof:List Int):Gate × Bool:=
 if DF g then (if CU g.head h proof then (⟨h,g.done⟩,true) else (g,false)) else (Ra,false)
def insert (x:Int):List Int→List Int
 | []=>[x]
 | y::ys=>if x<y then x::y::ys else y::insert x ys
def G7 (g:Gate) (t who:Int) (r:Row) (proof:List Int):Bool:=
 Br who 1 5&&decide (who=r.who) && !r.used && !g.done.contains t&&Hu g.head.own t r proof
def CB (g:Gate) (t who:Int) (r:Row) (proof:List Int):Gate × Bool:=
 if DF g then (if G7 g t who r proof then (⟨g.head,insert t g.done⟩,true) else (g,false)) else (Ra,false)
end Go.Proofs.YtgaflnpmilikcaaGreat.Sw
namespace Go.Proofs.YtgaflnpmilikcaaGreat.Sw
open Go.RowKit (wrap64)
def DR (p:List Int):Bool:=decide (p.length=5)&&p.all (fun n=>Br n 0 100000)
def purse (p:List Int) (who:Int):Int:=p.getD (who-1).toNat 0
def Y9 (p:List Int) (who:Int):Int:=if DR p&&Br who 1 5 then purse p who else 0
def Bz (p:List Int) (who n:Int):Bool:=DR p&&Br who 1 5&&Br n (-100000) 100000&&Br (purse p who+n) 0 100000
def turned (p:List Int) (who n:Int):List Int:=p.set (who-1).toNat (purse p who+n)
def Dy (p:List Int) (who n:Int):List Int:=if Bz p who n then turned p who n else p
def C8 (p:List Int) (a b n:Int):Bool:=Br n 0 100000&&decide (a≠b)&&Bz p a (-n)&&Bz (turned p a (-n)) b n
def Db (p:List Int) (a b n:Int):List Int:=if C8 p a b n then turned (turned p a (-n)) b n else p
def KJ (s:Int) (p:List Int):Int:=p.foldl (fun s n=>wrap64 (s+n)) s
def DV (p:List Int):Int:=KJ 0 p
structure BC where
 ticket:Int
 BP:Int
 Al:Int
 BN:Int
 due:Int
 deriving DecidableEq
structure Ee where
 user:Int
 n:Int
 kind:Int
 ticket:Int
 who:Int
 Al:Int
 deriving DecidableEq
structure CV where
 log:List FC
 Ai:List Int
 AJ:List BC
 clock:Int
 nums:List Int
 said:List Int
 deriving DecidableEq
def EE:BC:=⟨0,0,0,0,0⟩
def Eu:Ee:=⟨0,0,0,0,0,0⟩
def Ku:CV:=⟨[],[],[],0,[],[]⟩
def CY (p:List Int):CV:=
 if DR p&&decide (DV p≤100000) then ⟨[],p,[],0,[0,0,0,0,0],[0,0,0,0,0]⟩ else Ku
def held (d:BC):Bool:=decide (0<d.BN)
def IA (s:Int) (d:BC):Int:=if held d then wrap64 (s+d.Al) else s
def JP (s:Int) (ds:List BC):Int:=ds.foldl IA s
def WL (ds:List BC):Int:=JP 0 ds
def Ef (m:CV):Int:=WL m.AJ
def Ew (clock:Int) (rows:List Row) (d:BC):Bool:=
 Br d.ticket 0 7&&Br d.BP 1 5&&decide ((rowAt rows d.ticket).who=d.BP) && !(rowAt rows d.ticket).used &&
  Br d.Al 1 (C9 (rowAt rows d.ticket).EY) &&
  (if d.BN=0 then decide (d.due=0) else Br d.BN 1 5&&decide (d.BN≠d.BP)&&Br d.due clock (clock+5))
def FP (clock:Int) (rows:List Row):Int→List BC→Bool
 | _,[]=>true
 | p,d::ds=>Ew clock rows d&&decide (p<d.ticket)&&FP clock rows d.ticket ds
def J6 (n s:Int):Bool:=Br n 0 99999&&Br s 0 6&&(decide (n=0)==decide (s=0))
def GR:List Int→List Int→Bool
 | [],_=>true
 | _::_,[]=>false
 | n::ns,s::ss=>J6 n s&&GR ns ss
def CS (m:CV):List Row:=(Bq m.log).getD []
def GX (m:CV):Bool:=
 (Bq m.log).isSome&&DR m.Ai&&decide (m.AJ.length≤8)&&Br m.clock 0 99999&&decide (m.nums.length=5)&&decide (m.said.length=5) &&
  FP m.clock (CS m) (-1) m.AJ&&GR m.nums m.said&&decide (DV m.Ai+Ef m≤100000)
def BH (ds:List BC) (t:Int):Option Nat:=ds.findIdx? (fun d=>decide (d.ticket=t))
def FB (ds:List BC) (t:Int):Int:=match BH ds t with
 | some k=>k
 | none=>-1
def La (ds:List BC) (t:Int):Option BC:=ds.find? (fun d=>decide (d.ticket=t))
def CR (r:Ee):Bool:=
 Br r.user 1 5&&Br r.n 1 99999&&Br r.kind 1 6&&Br r.ticket 0 7 &&
  (if r.kind=1 then Br r.who 1 5&&Br r.Al 1 50 else decide (r.who=0)&&(if r.kind=2 then Br r.Al 1 999 else decide (r.Al=0)))
def CL (d:BC):List BC→List BC
 | []=>[d]
 | x::xs=>if d.ticket<x.ticket then d::x::xs else x::CL d xs
def issue (m:CV) (r:Ee) (row:Row):CV × Int:=
 if r.user≠1∨r.who=1 then (m,2)
 else if row.who≠0 then (m,3)
 else if m.log.length=40 then (m,6)
 else if C8 m.Ai r.who 1 r.Al then ({ m with Ai:=turned (turned m.Ai r.who (-r.Al)) 1 r.Al,log:=m.log ++ [⟨1,r.ticket,r.who,r.Al⟩] },1)
 else (m,5)
def offer (m:CV) (r:Ee) (row:Row) (k:Option Nat):CV × Int:=
 if row.who≠r.user then (m,2)
 else if k.isSome∨row.used=true then (m,3)
 else if C9 row.EY<r.Al then (m,4)
 else ({ m with AJ:=CL ⟨r.ticket,r.user,r.Al,0,0⟩ m.AJ },1)
def ED (m:CV) (r:Ee) (row:Row) (k:Option Nat):CV × Int:=
 if row.who≠r.user then (m,2)
 else match k with
 | none=>(m,3)
 | some k=>if held (m.AJ.getD k EE) then (m,3) else ({ m with AJ:=m.AJ.eraseIdx k },1)
def Gf (m:CV) (r:Ee) (k:Option Nat):CV × Int:=
 match k with
 | none=>(m,3)
 | some k=>
  if held (m.AJ.getD k EE) then (m,3)
  else if (m.AJ.getD k EE).BP=r.user then (m,2)
  else if Bz m.Ai r.user (-(m.AJ.getD k EE).Al) then
   ({ m with Ai:=turned m.Ai r.user (-(m.AJ.getD k EE).Al),AJ:=m.AJ.set k { m.AJ.getD k EE with BN:=r.user,due:=m.clock+5 } },1)
  else (m,5)
def settle (m:CV) (r:Ee) (k:Option Nat):CV × Int:=
 match k with
 | none=>(m,3)
 | some k=>
  if held (m.AJ.getD k EE)=false then (m,3)
  else if (m.AJ.getD k EE).BP≠r.user then (m,2)
  else if m.log.length=40 then (m,6)
  else ({ m with Ai:=Dy m.Ai (m.AJ.getD k EE).BP (m.AJ.getD k EE).Al,log:=m.log ++ [⟨2,r.ticket,(m.AJ.getD k EE).BN,(m.AJ.getD k EE).Al⟩],AJ:=m.AJ.eraseIdx k },1)
def enter (m:CV) (r:Ee) (row:Row) (k:Option Nat):CV × Int:=
 if row.who≠r.user then (m,2)
 else if row.used=true∨k.isSome then (m,3)
 else if m.log.length=40 then (m,6)
 else ({ m with log:=m.log ++ [⟨3,r.ticket,r.user,0⟩] },1)
def effect (m:CV) (r:Ee):CV × Int:=
 if r.kind=1 then issue m r (rowAt (CS m) r.ticket)
 else if r.kind=2 then offer m r (rowAt (CS m) r.ticket) (BH m.AJ r.ticket)
 else if r.kind=3 then ED m r (rowAt (CS m) r.ticket) (BH m.AJ r.ticket)
 else if r.kind=4 then Gf m r (BH m.AJ r.ticket)
 else if r.kind=5 then settle m r (BH m.AJ r.ticket)
 else enter m r (rowAt (CS m) r.ticket) (BH m.AJ r.ticket)
def lastOf (l:List Int) (user:Int):Int:=l.getD (user-1).toNat 0
def Il (m:CV) (r:Ee) (a:Int):CV:={ m with nums:=m.nums.set (r.user-1).toNat r.n,said:=m.said.set (r.user-1).toNat a }
def EZ (m:CV) (r:Ee):CV × Int:=
 if r.n=lastOf m.nums r.user then (m,lastOf m.said r.user)
 else if r.n<lastOf m.nums r.user then (m,7)
 else (Il (effect m r).1 r (effect m r).2,(effect m r).2)
def KN (m:CV) (r:Ee):CV × Int:=if GX m&&CR r then EZ m r else (Ku,0)
def Dq (clock:Int) (d:BC):BC:=if held d&&decide (d.due<clock) then { d with BN:=0,due:=0 } else d
def En (clock:Int) (p:List Int) (d:BC):List Int:=if held d&&decide (d.due<clock) then Dy p d.BN d.Al else p
def tick (m:CV):CV:={ m with clock:=m.clock+1,Ai:=m.AJ.foldl (En (m.clock+1)) m.Ai,AJ:=m.AJ.map (Dq (m.clock+1)) }
def Gz (m:CV):CV × Bool:=if GX m then (if m.clock=99999 then (m,false) else (tick m,true)) else (Ku,false)
def mF (m:CV):List Int:=(m.AJ.filter fun d=>!held d).map (·.ticket)
def tQ (m:CV) (who:Int):List Int:=(m.AJ.filter fun d=>held d&&decide (d.BN=who)).map (·.ticket)
def W9:Int→List Head→Bool
 | _,[]=>true
 | p,h::hs=>E9 h&&decide (p<h.size)&&W9 h.size hs
def Wz (l:List Head):Bool:=decide (l.length≤12)&&W9 (-1) l
def Q4 (h:Head):List Head→List Head
 | []=>[h]
 | x::xs=>if h.size<x.size then h::x::xs else x::Q4 h xs
def sP (l:List Head) (h:Head):List Head × Head × Bool:=
 if Wz l&&E9 h then
  match l.find? (fun x=>decide (x.size=h.size)) with
  | some x=>(l,x,TG x h)
  | none=>if l.length=12 then (l,DX,false) else (Q4 h l,DX,false)
 else (l,DX,false)
def kV (a:Head) (l:List Head):Option (Head × Head):=(l.find? (fun b=>TG a b)).map fun b=>(a,b)
def rD (a b:List Head):Option (Head × Head):=if Wz a&&Wz b then a.findSome? (fun x=>kV x b) else none
def sQ (l:List Head) (log:List FC):Bool:=Wz l&&l.all (fun h=>decide (J_ log h.size=some h))
structure IX where
 gate:Int
 head:Head
 proof:List Int
 deriving DecidableEq
structure World where
 first:List Int
 AB:CV
 lines:List Ee
 AV:List Gate
 BS:List IX
 deriving DecidableEq
structure Ev where
 kind:Int
 EK:Ee
 at_:Int
 ticket:Int
 who:Int
 deriving DecidableEq
def Cz:World:=⟨[],Ku,[],[],[]⟩
def Kg:Gate:=⟨(Cw []).getD DX,[]⟩
def Jv (p:List Int):World:=if DR p&&decide (DV p≤100000) then ⟨p,CY p,[],[Kg,Kg],[]⟩ else Cz
def D_ (r:Ee):Bool:=decide (r=Eu)||CR r
def Fs (x:IX):Bool:=Br x.gate 0 1&&E9 x.head&&DW x.proof
def Cc (w:World):Bool:=
 GX w.AB&&DR w.first&&decide (w.lines.length≤300)&&decide (w.AV.length=2)&&decide (w.BS.length≤6) &&
  w.lines.all D_&&w.AV.all DF&&w.BS.all Fs
def Df:CV→List Ee→Option CV
 | m,[]=>some m
 | m,r::rs=>
  if r=Eu then (if m.clock=99999 then none else Df (tick m) rs)
  else if CR r then Df (EZ m r).1 rs else none
def Cr (first:List Int) (lines:List Ee):Option CV:=
 if DR first&&decide (DV first≤100000)&&decide (lines.length≤300) then Df (CY first) lines else none
def ask (w:World) (r:Ee):World × Int:=
 if CR r&&decide (w.lines.length<300) then ({ w with AB:=(EZ w.AB r).1,lines:=w.lines ++ [r] },(EZ w.AB r).2) else (w,0)
def Gg (w:World):World:=
 if decide (w.AB.clock≠99999)&&decide (w.lines.length<300) then { w with AB:=tick w.AB,lines:=w.lines ++ [Eu] } else w
def fall (w:World):World:={ w with AB:=(Cr w.first w.lines).getD w.AB,BS:=[] }
def Cb (w:World) (k:Int):Gate:=w.AV.getD k.toNat Ra
def send (w:World) (k:Int):World:=
 if Br k 0 1&&decide (w.BS.length<6) then { w with BS:=w.BS ++ [⟨k,(Cw w.AB.log).getD DX,Dn w.AB.log (Cb w k).head.size⟩] } else w
def tO:IX:=⟨0,DX,[]⟩
def Gj (w:World) (i:Int):IX:=w.BS.getD i.toNat tO
def lose (w:World) (i:Int):World:={ w with BS:=w.BS.eraseIdx i.toNat }
def heard (w:World) (x:IX):World:={ w with AV:=w.AV.set x.gate.toNat (Ck (Cb w x.gate) x.head x.proof).1 }
def hear (w:World) (i:Int):World:=heard (lose w i) (Gj w i)
def twice (w:World) (i:Int):World:=if w.BS.length<6 then { w with BS:=w.BS ++ [Gj w i] } else w
def Da (w:World) (k t who:Int):World × Int:=
 if Br k 0 1&&Br t 0 7&&decide ((Cb w k).head.size≤w.AB.log.length) then
  match Bq (w.AB.log.take (Cb w k).head.size.toNat) with
  | none=>(w,0)
  | some rows=>
   if (CB (Cb w k) t who (rowAt rows t) (Dl rows t)).2 then
    ({ w with AV:=w.AV.set k.toNat (CB (Cb w k) t who (rowAt rows t) (Dl rows t)).1 },1)
   else (w,3)
 else (w,0)
def Bp (w:World) (t:Int):World:=
 if decide (0<(rowAt (CS w.AB) t).who) && !(rowAt (CS w.AB) t).used&&decide (lastOf w.AB.nums (rowAt (CS w.AB) t).who<99999) then
  (ask w ⟨(rowAt (CS w.AB) t).who,lastOf w.AB.nums (rowAt (CS w.AB) t).who+1,6,t,0,0⟩).1
 else w
def tell (w:World) (k:Int):World:=if Br k 0 1 then (Cb w k).done.foldl Bp w else w
def step (w:World) (e:Ev):World × Int:=
 if e.kind=1 then ask w e.EK
 else if e.kind=2 then (Gg w,0)
 else if e.kind=3 then (fall w,0)
 else if e.kind=4 then (send w e.at_,0)
 else if e.kind=5 then (if Br e.at_ 0 (w.BS.length-1) then hear w e.at_ else w,0)
 else if e.kind=6 then (if Br e.at_ 0 (w.BS.length-1) then lose w e.at_ else w,0)
 else if e.kind=7 then (if Br e.at_ 0 (w.BS.length-1) then twice w e.at_ else w,0)
 else if e.kind=8 then Da w e.at_ e.ticket e.who
 else if e.kind=9 then (tell w e.at_,0)
 else (w,0)
def Cg (w:World) (e:Ev):World × Int:=if Cc w then step w e else (Cz,0)
def Gx (w:World) (es:List Ev):World:=es.foldl (fun w e=>(step w e).1) w
def Du (w:World) (es:List Ev):World:=if Cc w&&decide (es.length≤300) then Gx w es else Cz
def nA (w:World):Int:=wrap64 (DV w.AB.Ai+Ef w.AB)
end Go.Proofs.YtgaflnpmilikcaaGreat.Sw
namespace Go.Proofs.YtgaflnpmilikcaaGreat
open Go
section
variable {P:Program} {ops:Array Oper} {Q:Exit→Act→World→Prop} {md:Region.Mode} {S:World→Prop}
theorem EP (i d:Nat) {oi:Oper} {fuel:Nat} {listed:Array Bool} {a:Act} {w:World} (hi:ops[i]?=some oi) (hd:oi.dst=some d)
  (hs:Region.noSelect ops=true) (hf:Region.free md ops listed i=true) (hr:(Region.ready md ops listed).contains i=true)
  (hQ:∀ c a w,Q (.panic c) (a.put (some d) undef) w→Q (.panic c) a w) (hw:Region.wanted oi (yielded ops a.tmps)=false) (hS:S w)
  (h:wpAnyH P md ops Q S fuel (listed.setIfInBounds i true) (a.put (some d) undef) w):wpAnyH P md ops Q S (fuel+1) listed a w:=
 wpAnyH_take (v:=undef) hi hs hf hr (by rw[hd];exact hQ) (Or.inr ⟨hw,rfl⟩) hS (by rw[hd];exact h)
theorem F4 (i d:Nat) {v:Value} {oi:Oper} {fuel:Nat} {listed:Array Bool} {a:Act} {w:World} (hi:ops[i]?=some oi) (hd:oi.dst=some d)
  (hs:Region.noSelect ops=true) (hf:Region.free md ops listed i=true) (hr:(Region.ready md ops listed).contains i=true)
  (hQ:∀ c a w,Q (.panic c) (a.put (some d) v) w→Q (.panic c) a w) (hw:Region.wanted oi (yielded ops a.tmps)=true) (hy:∀ w,S w→(execOp a.eval oi).run P w=.ok (.value v) w) (hS:S w)
  (h:wpAnyH P md ops Q S fuel (listed.setIfInBounds i true) (a.put (some d) v) w):wpAnyH P md ops Q S (fuel+1) listed a w:=
 wpAnyH_take (v:=v) hi hs hf hr (by rw[hd];exact hQ) (Or.inl ⟨hw,hy⟩) hS (by rw[hd];exact h)
theorem rT (i d:Nat) {v:Value} {oi:Oper} {fuel:Nat} {listed:Array Bool} {a b:Act} {w:World} (hi:ops[i]?=some oi:=by rfl) (hd:oi.dst=some d:=by rfl)
  (hs:Region.noSelect ops=true:=by kernel_rfl) (hf:Region.free md ops listed i=true:=by kernel_rfl) (hr:(Region.ready md ops listed).contains i=true:=by kernel_rfl)
  (hw:Region.wanted oi (yielded ops a.tmps)=true:=by rfl) (hy:∀ w,S w→(execOp a.eval oi).run P w=.ok (.value v) w:=by (intro w hSw;(try dsimp only at hSw);go_simp;(try with_reducible rfl)))
  (hQ:∀ c a w,Q (.panic c) (a.put (some d) v) w→Q (.panic c) a w:=by (exact (fun _ _ _ h=>h))) (hS:S w:=by assumption) (hb:a.put (some d) v=b:=by (simp only[Act.put,List.setIfInBounds_toArray,List.set_cons_zero,List.set_cons_succ];rfl))
  (h:wpAnyH P md ops Q S fuel (listed.setIfInBounds i true) b w):wpAnyH P md ops Q S (fuel+1) listed a w:=
 wpAnyH_take (v:=v) hi hs hf hr (by rw[hd];exact hQ) (Or.inl ⟨hw,hy⟩) hS (by rw[hd,hb];exact h)
theorem Ju {Inv:Nat→Array Bool→Act→World→Prop} {k:Nat}
  (h0:∀ l a w,Inv 0 l a w→wpAnyH P md ops Q S k l a w)
  (hd:∀ n l a w,Inv (n+1) l a w→Region.ready md ops l≠[])
  (hs:∀ n l a w,Inv (n+1) l a w→∀ i∈Region.ready md ops l,wpOp P ops Q i (fun a' w'=>S w'∧Inv n (l.setIfInBounds i true) a' w') a w) :
  ∀ n l a w,Inv n l a w→wpAnyH P md ops Q S (n+k) l a w
 | 0,l,a,w,h=>by rw[Nat.zero_add];exact h0 l a w h
 | n+1,l,a,w,h=>by
  rw[show n+1+k=n+k+1 by omega]
  exact⟨fun he=>absurd he (hd n l a w h),fun i hi=>wpOp_mono (fun a' w' h'=>⟨h'.1,Ju h0 hd hs n _ _ _ h'.2⟩) (hs n l a w h i hi)⟩
end
end Go.Proofs.YtgaflnpmilikcaaGreat

import Derived.Test.YtgdcofbnbiclmaaGreatDoorQTapP
import Derived.Test.YtgdcofbnbiclmaaGreatDoorQFoldP
import Derived.Test.YtgdcofbnbiclmaaGreatDoorQMatchP
import Derived.Test.YtgdcofbnbiclmaaGreatDoorQRest
import Derived.Test.YtgdcofbnbiclmaaGreatDoorQMacP
namespace Go.Proofs.YtgdcofbnbiclmaaGreatDoor
set_option linter.all false
set_option maxHeartbeats 32000000
open Go.RowKit
structure T3 (α:Type) where
 x:α
 y:α
 z:α
def T3.get {α:Type} (t:T3 α):Nat→α|0=>t.x|1=>t.y|_=>t.z
def T3.set {α:Type} (t:T3 α):Nat→α→T3 α|0,v=>⟨v,t.y,t.z⟩|1,v=>⟨t.x,v,t.z⟩|_,v=>⟨t.x,t.y,v⟩
structure Msg where
 src:Int
 dst:Int
 kind:Int
 term:Int
 last:Int
 lastTerm:Int
 yes:Bool
 commit:Int
 items:List Itm
 si:Int
 st:Int
 sm:Mach
def Msg.of (kind term:Int):Msg:=⟨0,0,kind,term,0,0,false,0,[],0,0,zeroMach⟩
structure Wt where
 place:Int
 term:Int
 call:CallM
structure Tl where
 node:Int
 call:CallM
 rep:Re
structure Nd where
 me:Int
 up:Bool
 clock:Int
 role:Int
 term:Int
 vote:Int
 b:Int
 bt:Int
 L:List Itm
 si:Int
 st:Int
 sm:Mach
 m:Mach
 commit:Int
 votes:T3 Bool
 next:T3 Int
 mat:T3 Int
 waits:List Wt
 recs:List RK
 sn:Nat
 out:List Msg
structure Cw where
 nd:T3 Nd
 away:List Msg
 told:List Tl
 led:List (Int×Int)
def rkB:RK→Bool
 | .mark t f=>numberOk t && decide (-1≤f) && decide (f<3)
 | .line i x=>numberOk i && checkItem x == 0
 | .load i t m=>numberOk i && numberOk t && checkMach m == 0
theorem rk_iff {r:RK}:rkB r=true ↔ r.Ok:=by
 cases r with
 | mark t f=>simp [rkB,RK.Ok,and_assoc]
 | line i x=>simp [rkB,RK.Ok]
 | load i t m=>simp only [rkB,RK.Ok,Bool.and_eq_true,beq_iff_eq,and_assoc];exact ⟨fun ⟨a,b,c⟩=>⟨a,b,mach_ok c⟩,fun ⟨a,b,c⟩=>⟨a,b,ok_mach c⟩⟩
def Nd.room (n:Nd) (r:RK):Bool:=rkB r && decide ((tapeB n.recs).length+r.frame.length≤400000)
def Nd.write (n:Nd) (r:RK):Nd×Bool:=if n.room r=true then ({ n with recs:=n.recs ++ [r] },true) else (n,false)
def Nd.send (n:Nd) (q:Int) (m:Msg):Nd:=if n.out.length<300 then { n with out:=n.out ++ [{ m with src:=n.me,dst:=q }] } else n
def Nd.tellTo (n:Nd) (m:Msg) (q:Int):Nd:=if q≠n.me then n.send q m else n
def Nd.tell (n:Nd) (m:Msg):Nd:=((n.tellTo m 0).tellTo m 1).tellTo m 2
def Nd.lastP (n:Nd):Int×Int:=lastOf n.b n.bt n.L
def Nd.mark (n:Nd) (t v:Int):Nd×Bool:=if (n.write (.mark t v)).2=true then ({ (n.write (.mark t v)).1 with term:=t,vote:=v },true) else (n,false)
def Nd.follow (n:Nd):Nd:={ n with role:=0,waits:=[] }
def Nd.hear (n:Nd):Nd:=if n.role=2 then n.follow else n
def Nd.refuse (n:Nd) (q:Int):Nd:=n.send q (Msg.of 8 n.term)
def aloneV (me:Int):T3 Bool:=⟨me == 0,me == 1,me == 2⟩
def manyB (v:T3 Bool):Bool:=decide (2≤(if v.x then 1 else 0)+(if v.y then 1 else 0)+(if v.z then 1 else 0))
def Nd.put (n:Nd) (x:Itm):Nd×Bool:=
 let r:=matchOf n.b n.bt n.L n.lastP.1 n.lastP.2 [x]
 if r.err≠0∨r.fits=false∨r.fresh=0 then (n,false)
 else if (n.write (.line (n.lastP.1+1) x)).2=true then ({ (n.write (.line (n.lastP.1+1) x)).1 with L:=r.log.getD [] },true) else (n,false)
def Nd.time (n:Nd):Int:=match n.L.getLast? with|some x=>max (max n.clock n.m.now) x.time|none=>max n.clock n.m.now
def behindL (b bt:Int) (L:List Itm) (place:Int):List Itm:=if place<0∨1048576<place∨(termOf b bt L place).2≠0 then [] else (L.drop (place - b).toNat).take 8
def Nd.heapM (n:Nd) (q:Nat):Msg:=
 if n.next.get q - 1<n.b then { Msg.of 7 n.term with si:=n.si,st:=n.st,sm:=n.sm }
 else { Msg.of 5 n.term with last:=n.next.get q - 1,lastTerm:=(termE n.b n.bt n.L (n.next.get q - 1)).1,items:=behindL n.b n.bt n.L (n.next.get q - 1),commit:=n.commit }
def Nd.heapTo (n:Nd) (q:Nat):Nd:=if (q:Int)=n.me then n else n.send q (n.heapM q)
def Nd.heap (n:Nd):Nd:=((n.heapTo 0).heapTo 1).heapTo 2
def Nd.stand (n:Nd):Nd:=
 if n.term=1048576∨(n.mark (n.term+1) n.me).2=false then n
 else
  let n:={ (n.mark (n.term+1) n.me).1 with role:=2,votes:=aloneV n.me }
  n.tell { Msg.of 3 n.term with last:=n.lastP.1,lastTerm:=n.lastP.2 }
def Nd.pre (n:Nd) (m:Msg):Nd:=if newerB n.b n.bt n.L m.last m.lastTerm=true∧n.term<m.term then n.send m.src (Msg.of 2 m.term) else n.refuse m.src
def Nd.ballot (n:Nd) (m:Msg):Nd:=
 if newerB n.b n.bt n.L m.last m.lastTerm=false∨(0≤n.vote∧n.vote≠m.src) then n.refuse m.src
 else if n.vote<0 then (if (n.mark n.term m.src).2=true then (n.mark n.term m.src).1.send m.src (Msg.of 4 n.term) else n.refuse m.src)
 else n.send m.src (Msg.of 4 n.term)
def Nd.ship (n:Nd) (m:Msg):Nd:=
 if n.commit<m.si then
  if (n.write (.load m.si m.st m.sm)).2=true then
   Nd.send { (n.write (.load m.si m.st m.sm)).1 with b:=m.si,bt:=m.st,L:=restL n.b n.bt n.L m.si m.st,si:=m.si,st:=m.st,sm:=m.sm,m:=m.sm,commit:=m.si } m.src { Msg.of 6 n.term with yes:=true,last:=m.si }
  else n
 else n.send m.src { Msg.of 6 n.term with yes:=true,last:=m.si }
def Nd.trim (n:Nd):Nd:=
 if n.commit=n.b then n
 else if (n.write (.load n.commit (termE n.b n.bt n.L n.commit).1 n.m)).2=true then
  {(n.write (.load n.commit (termE n.b n.bt n.L n.commit).1 n.m)).1 with si:=n.commit,st:=(termE n.b n.bt n.L n.commit).1,sm:=n.m,b:=n.commit,bt:=(termE n.b n.bt n.L n.commit).1,L:=n.L.drop (n.commit - n.b).toNat }
 else n
def freshN (me:Int) (d:Dk) (recs:List RK) (clock:Int):Nd:=
 {me:=me,up:=false,clock:=clock,role:=0,term:=d.term,vote:=d.who,b:=d.b,bt:=d.bt,L:=d.L,si:=d.si,st:=d.st,sm:=d.m,m:=d.m,commit:=d.si,
  votes:=⟨false,false,false⟩,next:=⟨0,0,0⟩,mat:=⟨0,0,0⟩,waits:=[],recs:=recs,sn:=recs.length,out:=[] }
def Nd.syn (n:Nd):Nat:=(tapeB (n.recs.take n.sn)).length
def Nd.left (n:Nd) (keep:Int):List RK:=n.recs.take (wholes n.recs (min (n.syn+keep) (tapeB n.recs).length).toNat)
def Nd.crash (n:Nd) (keep:Int):Nd:=freshN n.me (foldG newDk (n.left keep)).1 (n.left keep) n.clock
def Nd.doneX (n:Nd):Itm:=n.L[(n.commit+1 - n.b - 1).toNat]?.getD ⟨0,0,false,0,0,noCmd⟩
def callI (x:Itm):CallM:=⟨x.client,x.seq,x.cmd⟩
def Nd.doneR (n:Nd):Mach×Re:=if n.doneX.nop=true then (n.m,⟨0,emp,0,[]⟩) else ((applyM n.m n.doneX.time (callI n.doneX)).1,(applyM n.m n.doneX.time (callI n.doneX)).2.1)
def Nd.done1 (n:Nd):Nd:={ n with commit:=n.commit+1,m:=n.doneR.1 }
def Nd.tells (n:Nd):List Tl:=(n.waits.filter fun w=>w.place == n.commit+1 && w.term == n.doneX.term).map fun w=>⟨n.me,w.call,n.doneR.2⟩
def doneN:Nat→Nd→List Tl→Nd×List Tl
 | 0,n,t=>(n,t)
 | k+1,n,t=>doneN k n.done1 (t ++ n.tells)
def Cw.put (c:Cw) (i:Nat) (n:Nd):Cw:={ c with nd:=c.nd.set i n }
def Cw.done (c:Cw) (i:Nat) (place:Int):Cw:=
 let r:=doneN (place - (c.nd.get i).commit).toNat (c.nd.get i) c.told
 {c with nd:=c.nd.set i r.1,told:=r.2 }
def has1 (n:Nd) (place:Int) (i:Nat):Int:=if (i:Int)≠n.me∧place≤n.mat.get i then 1 else 0
def Nd.agrees (n:Nd) (place:Int):Bool:=decide (2≤1+has1 n place 0+has1 n place 1+has1 n place 2) && (termE n.b n.bt n.L place).1 == n.term
def agreedN (n:Nd):Nat→Option Int
 | 0=>none
 | k+1=>if n.agrees (n.commit+(k+1))=true then some (n.commit+(k+1)) else agreedN n k
def Cw.agreed (c:Cw) (i:Nat):Cw:=match agreedN (c.nd.get i) ((c.nd.get i).lastP.1 - (c.nd.get i).commit).toNat with
 | some p=>c.done i p
 | none=>c
def Cw.lead (c:Cw) (i:Nat):Cw:=
 let n:=c.nd.get i
 let n:={ n with role:=3,next:=⟨n.lastP.1+1,n.lastP.1+1,n.lastP.1+1⟩,mat:=⟨0,0,0⟩ }
 let n':=(n.put ⟨n.term,n.time,true,0,0,noCmd⟩).1
 {c with nd:=c.nd.set i n'.heap,led:=c.led ++ [(n.term,n.me)] }
def linesOf (b:Int) (L:List Itm) (fresh:Int):List RK:=linesFrom fresh (L.drop (fresh - b - 1).toNat)
def Nd.writes:Nd→List RK→Nd×Bool
 | n,[]=>(n,true)
 | n,r :: l=>if n.room r=true then Nd.writes { n with recs:=n.recs ++ [r] } l else (n,false)
def Cw.pile (c:Cw) (i:Nat) (m:Msg):Cw:=
 let n:=c.nd.get i
 let r:=matchOf n.b n.bt n.L m.last m.lastTerm m.items
 if r.err≠0 then c
 else if r.fits=false then c.put i (n.send m.src { Msg.of 6 n.term with last:=n.commit })
 else
  let l:=r.log.getD []
  let w:=n.writes (linesOf n.b l r.fresh)
  let ack:Msg:={ Msg.of 6 n.term with yes:=true,last:=m.last+m.items.length }
  if 0<r.fresh then
   if w.2=true then (c.put i (Nd.send { w.1 with L:=l } m.src ack)).done i (min m.commit (m.last+m.items.length)) else c
  else (c.put i (n.send m.src ack)).done i (min m.commit (m.last+m.items.length))
def Cw.ack (c:Cw) (i:Nat) (m:Msg):Cw:=
 let n:=c.nd.get i
 let s:=m.src.toNat
 if m.yes=true then (c.put i { n with mat:=n.mat.set s (max (n.mat.get s) m.last),next:=n.next.set s (max (n.next.get s) (m.last+1)) }).agreed i
 else c.put i { n with next:=n.next.set s (max (n.mat.get s) m.last+1) }
def Cw.take (c:Cw) (i:Nat) (m:Msg):Cw:=
 let n:=c.nd.get i
 if m.kind=1 then c.put i (n.pre m)
 else if m.kind=2 then (if n.role=1∧m.term=n.term+1 then
   let n:={ n with votes:=n.votes.set m.src.toNat true }
   c.put i (if manyB n.votes=true then n.stand else n) else c)
 else if m.term<n.term then (if m.kind=8 then c else c.put i (n.refuse m.src))
 else if m.kind=3 then c.put i (n.ballot m)
 else if m.kind=4 then (if n.role=2 then
   let n:={ n with votes:=n.votes.set m.src.toNat true }
   if manyB n.votes=true then (c.put i n).lead i else c.put i n else c)
 else if m.kind=5 then (c.put i n.hear).pile i m
 else if m.kind=7 then c.put i (n.hear.ship m)
 else if m.kind=6 then (if n.role=3 then c.ack i m else c)
 else c
def Cw.come (c:Cw) (m:Msg):Cw:=
 let i:=m.dst.toNat
 let n:=c.nd.get i
 if n.up=false then c
 else if m.kind≠1∧m.kind≠2∧n.term<m.term then
  (if (n.mark m.term (-1)).2=true then (c.put i (n.mark m.term (-1)).1.follow).take i m else c)
 else c.take i m
def Cw.answer (c:Cw) (i:Nat) (call:CallM) (e:Int):Cw:={ c with told:=c.told ++ [⟨(c.nd.get i).me,call,⟨e,emp,0,[]⟩⟩] }
def Cw.ask (c:Cw) (i:Nat) (call:CallM):Cw:=
 let n:=c.nd.get i
 if n.up=false then c.answer i call 13
 else if n.role≠3 then c.answer i call 12
 else
  let r:=n.put ⟨n.term,n.time,false,call.client,call.seq,call.cmd⟩
  if r.2=false then c.answer i call 6
  else c.put i { r.1 with waits:=r.1.waits ++ [⟨r.1.lastP.1,r.1.term,call⟩] }
def Cw.sync (c:Cw) (i:Nat):Cw:=
 let n:=c.nd.get i
 {c with nd:=c.nd.set i { n with sn:=n.recs.length,out:=[] },away:=c.away ++ n.out.take (300 - c.away.length) }
def Cw.act (c:Cw) (i:Nat) (a:ActD):Cw:=
 let n:=c.nd.get i
 if a.kind=2 then (if n.role≠3∧n.term<1048576 then
  c.put i (Nd.tell { n with role:=1,votes:=aloneV n.me } { Msg.of 1 (n.term+1) with last:=n.lastP.1,lastTerm:=n.lastP.2 }) else c)
 else if a.kind=3 then (if n.role=3 then c.put i n.heap else c)
 else if a.kind=4 then c.sync i
 else if a.kind=9 then c.put i (n.crash a.pick)
 else if a.kind=11 then c.put i n.trim
 else c
def callA (a:ActD):CallM:=⟨a.client,a.seq,a.cmd⟩
def comes:List Msg→Cw→Cw
 | [],c=>c
 | m :: l,c=>comes l (c.come m)
def Cw.go (c:Cw) (a:ActD):Cw:=
 let i:=a.node.toNat
 let n:=c.nd.get i
 let k:=a.pick.toNat % c.away.length
 if a.kind=1 then c.ask i (callA a)
 else if a.kind=5 then c.put i { n with clock:=min (n.clock+a.pick) 1073741824 }
 else if a.kind=10 then c.put i { n with up:=true }
 else if a.kind=6∨a.kind=7 then (match c.away[k]? with
  | some m=>if a.kind=6 then Cw.come { c with away:=c.away.eraseIdx k } m else { c with away:=c.away.eraseIdx k }
  | none=>c)
 else if a.kind=8 then (match c.away[k]? with
  | some m=>if c.away.length<300 then { c with away:=c.away ++ [m] } else c
  | none=>c)
 else if a.kind=12 then comes c.away { c with away:=[] }
 else if n.up=true then c.act i a else c
def newN (me:Int):Nd:={ freshN me newDk [] 0 with up:=true }
def newC:Cw:=⟨⟨newN 0,newN 1,newN 2⟩,[],[],[]⟩
def runC (l:List ActD):Cw:=l.foldl Cw.go newC
def markCells (t f:Int):List Value:=[.int .i64 1,.int .i64 t,.int .i64 f,.int .i64 0,.int .i64 0,.int .i64 0,.bool false,.int .i64 0,.int .i64 0,.int .i64 0,.string { data:=#[] },.string { data:=#[] },.string { data:=#[] },.int .i64 0,.int .i64 0,.int .i64 0,.int .i64 0,.slice none 0 0,.int .i64 0,.slice none 0 0]
def lineCells (i:Int) (x:Itm):List Value:=[.int .i64 2,.int .i64 0,.int .i64 0,.int .i64 i,.int .i64 x.term,.int .i64 x.time,.bool x.nop,.int .i64 x.client,.int .i64 x.seq,.int .i64 x.cmd.kind,.string x.cmd.key,.string x.cmd.field,.string x.cmd.text,.int .i64 x.cmd.n,.int .i64 0,.int .i64 0,.int .i64 0,.slice none 0 0,.int .i64 0,.slice none 0 0]
def loadCells (i t:Int) (m:Mach) (E C:Value):List Value:=[.int .i64 3,.int .i64 0,.int .i64 0,.int .i64 0,.int .i64 0,.int .i64 0,.bool false,.int .i64 0,.int .i64 0,.int .i64 0,.string { data:=#[] },.string { data:=#[] },.string { data:=#[] },.int .i64 0,.int .i64 i,.int .i64 t,.int .i64 m.now,E,.int .i64 m.next,C]
def RecAt (w:World):RK→List Value→Prop
 | .mark t f,row=>row=markCells t f
 | .line i x,row=>row=lineCells i x
 | .load i t m,row=>∃ A n c B k d,row=loadCells i t m (.slice A n c) (.slice B k d)∧St w A n c m.ents∧Ci w B k d m.clis
theorem RecAt.bl {w w':World} {r:RK} {row:List Value} (h:RecAt w r row) (hb:Below w.heap.size w w'):RecAt w' r row:=by
 cases r with
 | mark t f=>exact h
 | line i x=>exact h
 | load i t m=>
  obtain ⟨A,n,c,B,k,d,h1,h2,h3⟩:=h
  exact ⟨A,n,c,B,k,d,h1,h2.bl hb,h3.bl hb⟩
theorem RecAt.grown {w w':World} {g:Nat} {t:TypeId} {cs:Array Value} {r:RK} {row:List Value} (h:RecAt w r row) (R:Blk w g t cs) (hg:w.grownBy w' (some g)) (h0:84≠t:=by decide) (h4:142≠t:=by decide) (h1:t≠160:=by decide) (h2:t≠9:=by decide) (h3:t≠163:=by decide):RecAt w' r row:=by
 cases r with
 | mark t f=>exact h
 | line i x=>exact h
 | load i t m=>
  obtain ⟨A,n,c,B,k,d,e1,e2,e3⟩:=h
  exact ⟨A,n,c,B,k,d,e1,e2.grown R hg h0 h1 h2 h3,e3.grown R hg h4 h1 h2 h3⟩
theorem RecAt.len {w:World} {r:RK} {row:List Value} (h:RecAt w r row):row.length=20:=by
 cases r with
 | mark t f=>rw [show row=markCells t f from h];rfl
 | line i x=>rw [show row=lineCells i x from h];rfl
 | load i t m=>obtain ⟨A,n,c,B,k,d,rfl,_⟩:=h;rfl
theorem RecAt.one {w:World} {r:RK} {row:List Value} (h:RecAt w r row):∀ u∈row,u.oneCell'=true:=by
 have key:∀ u∈row,u.oneCell'=true:=by
  cases r with
  | mark t f=>rw [show row=markCells t f from h];exact all_one rfl
  | line i x=>rw [show row=lineCells i x from h];exact all_one rfl
  | load i t m=>obtain ⟨A,n,c,B,k,d,rfl,_⟩:=h;exact all_one rfl
 exact key
theorem one_step {w w1:World} {b:Nat} {t:TypeId} {cs cs':Array Value} (i:Nat) (u:Value) (h:Blk w1 b t cs∧w.grownBy w1 (some b)∧w1.heap.size=w.heap.size) (he:cs.setIfInBounds i u=cs') :
  Blk (w1.setCell ⟨b,i,none⟩ u) b t cs'∧w.grownBy (w1.setCell ⟨b,i,none⟩ u) (some b)∧(w1.setCell ⟨b,i,none⟩ u).heap.size=w.heap.size:=
 ⟨h.1.set' he,grown_trans h.2.1 (grown_setRow_cell w1 b i u),by rw [←h.2.2];simp⟩
theorem wpList_store_blk {P:Program} {ops:Array Oper} {rest:List Oper} {op:Oper} {a:Act} {w:World} {Q:Exit→Act→World→Prop} (hgd:op.guard=none) (ty:TypeId) (x y:Operand) (ho:op.op = .store ty x y)
  {b:Nat} {cs cells:Array Value} (hx:a.eval x = .pointer (some ⟨b,0,none⟩)) (hy:a.eval y = .agg cells) (hB:Blk w b ty cs) (hsz:cs.size=cells.size) (hi:(P.info? ty).map (·.size)=some cells.size) (h1:∀ u∈cells.toList,u.oneCell'=true)
  (h:∀ w',Blk w' b ty cells→w.grownBy w' (some b)→w'.heap.size=w.heap.size→wpList P ops Q rest (a.put op.dst undef) w'):wpList P ops Q (op :: rest) a w:=by
 have hrun:=run_storeVar_row (P:=P) w b ty ty cs cells hB hi hsz (Array.all_eq_true_iff_forall_mem.2 fun v hv=>h1 v (by simpa using hv))
 refine wpList_plain hgd fun _ hK=>?_
 unfold Oper.wp execOp
 simp only [ho,hx,hy,Instr.storeAt,Instr.sureAddr,Sem.run_bind,Sem.run_pure,Result.andThen_ok,hrun]
 refine hK _ _ (h _ ?_ (grown_setRow w b cells) ?_)
 ·exact setRow_heap w b cs cells ty (0,0) hB
 ·exact size_setRow w b cells
set_option maxRecDepth 100000 in
theorem noSnap_none (w:World):Calls Tryz.prog 196 #[.agg #[.int .i64 0,.int .i64 0,.int .i64 0,.slice none 0 0,.int .i64 0,.slice none 0 0]] w fun e w'=>e = .returned (.bool true)∧Below w.heap.size w w':=by
 have T0:=(Blk.new w 109 #[.int .i64 0,.int .i64 0,.int .i64 0,.slice none 0 0,.int .i64 0,.slice none 0 0]).alloc (.cells #[.int .i64 0,.slice none 0 0,.int .i64 0,.slice none 0 0] 49)
 have M0:Blk ((w.alloc (.cells #[.int .i64 0,.int .i64 0,.int .i64 0,.slice none 0 0,.int .i64 0,.slice none 0 0] 109)).alloc (.cells #[.int .i64 0,.slice none 0 0,.int .i64 0,.slice none 0 0] 49)) (w.heap.size+1) 49 #[.int .i64 0,.slice none 0 0,.int .i64 0,.slice none 0 0]:=Blk.new' _ _ _ (by simp)
 have q0:Below w.heap.size w ((w.alloc (.cells #[.int .i64 0,.int .i64 0,.int .i64 0,.slice none 0 0,.int .i64 0,.slice none 0 0] 109)).alloc (.cells #[.int .i64 0,.slice none 0 0,.int .i64 0,.slice none 0 0] 49)):=below_by
 go_enter Tryz.func196,Tryz.ntmps196
 go_wp2_with fail
 go_ret
 exact ⟨rfl,q0⟩
set_option maxRecDepth 100000 in
theorem CheckMark_ok (t f:Int) (ht:numberOk t=true) (h0 : -1≤f) (h1:f<3) (w:World) :
  Calls Tryz.prog 171 #[.agg #[.int .i64 1,.int .i64 t,.int .i64 f,.int .i64 0,.int .i64 0,.int .i64 0,.bool false,.int .i64 0,.int .i64 0,.int .i64 0,.string { data:=#[] },.string { data:=#[] },.string { data:=#[] },.int .i64 0,.int .i64 0,.int .i64 0,.int .i64 0,.slice none 0 0,.int .i64 0,.slice none 0 0]] w fun e w'=>e = .returned (.int .i64 0)∧Below w.heap.size w w':=by
 have T0:=(Blk.new w 205 #[.int .i64 1,.int .i64 t,.int .i64 f,.int .i64 0,.int .i64 0,.int .i64 0,.bool false,.int .i64 0,.int .i64 0,.int .i64 0,.string { data:=#[] },.string { data:=#[] },.string { data:=#[] },.int .i64 0,.int .i64 0,.int .i64 0,.int .i64 0,.slice none 0 0,.int .i64 0,.slice none 0 0]).alloc (.cells #[.int .i64 0,.int .i64 0,.bool false,.int .i64 0,.int .i64 0,.int .i64 0,.string { data:=#[] },.string { data:=#[] },.string { data:=#[] },.int .i64 0] 67)
 have I0:=Blk.new (w.alloc (.cells #[.int .i64 1,.int .i64 t,.int .i64 f,.int .i64 0,.int .i64 0,.int .i64 0,.bool false,.int .i64 0,.int .i64 0,.int .i64 0,.string { data:=#[] },.string { data:=#[] },.string { data:=#[] },.int .i64 0,.int .i64 0,.int .i64 0,.int .i64 0,.slice none 0 0,.int .i64 0,.slice none 0 0] 205)) 67 #[.int .i64 0,.int .i64 0,.bool false,.int .i64 0,.int .i64 0,.int .i64 0,.string { data:=#[] },.string { data:=#[] },.string { data:=#[] },.int .i64 0]
 have q0:Below w.heap.size w ((w.alloc (.cells #[.int .i64 1,.int .i64 t,.int .i64 f,.int .i64 0,.int .i64 0,.int .i64 0,.bool false,.int .i64 0,.int .i64 0,.int .i64 0,.string { data:=#[] },.string { data:=#[] },.string { data:=#[] },.int .i64 0,.int .i64 0,.int .i64 0,.int .i64 0,.slice none 0 0,.int .i64 0,.slice none 0 0] 205)).alloc (.cells #[.int .i64 0,.int .i64 0,.bool false,.int .i64 0,.int .i64 0,.int .i64 0,.string { data:=#[] },.string { data:=#[] },.string { data:=#[] },.int .i64 0] 67)):=below_by
 go_enter Tryz.func171,Tryz.ntmps171
 (try clear cT0 fT0);have cT0:=T0.cell;have fT0:=T0.frozen;(try clear cI0 fI0);have cI0:=I0.cell;have fI0:=I0.frozen
 go_wp2_with fail
 refine (noSnap_none _).mono ?_
 rintro e w1 ⟨rfl,hb1⟩
 replace T0:=T0.bl hb1;replace I0:=I0.bl hb1
 replace q0:=bstep q0 hb1
 clear hb1 cT0 fT0 cI0 fI0
 (try clear cT0 fT0);have cT0:=T0.cell;have fT0:=T0.frozen;(try clear cI0 fI0);have cI0:=I0.cell;have fI0:=I0.frozen
 go_wp2_with fail
 refine (tnumber_any t _).mono ?_
 rintro e w' ⟨rfl,rfl⟩
 rw [ht]
 go_wp2_with fail
 go_ret
 exact ⟨rfl,q0⟩
set_option maxRecDepth 100000 in
theorem CheckMark_bad (t f:Int) (ht:numberOk t=false) (w:World) :
  Calls Tryz.prog 171 #[.agg #[.int .i64 1,.int .i64 t,.int .i64 f,.int .i64 0,.int .i64 0,.int .i64 0,.bool false,.int .i64 0,.int .i64 0,.int .i64 0,.string { data:=#[] },.string { data:=#[] },.string { data:=#[] },.int .i64 0,.int .i64 0,.int .i64 0,.int .i64 0,.slice none 0 0,.int .i64 0,.slice none 0 0]] w fun e w'=>e = .returned (.int .i64 2)∧Below w.heap.size w w':=by
 have T0:=(Blk.new w 205 #[.int .i64 1,.int .i64 t,.int .i64 f,.int .i64 0,.int .i64 0,.int .i64 0,.bool false,.int .i64 0,.int .i64 0,.int .i64 0,.string { data:=#[] },.string { data:=#[] },.string { data:=#[] },.int .i64 0,.int .i64 0,.int .i64 0,.int .i64 0,.slice none 0 0,.int .i64 0,.slice none 0 0]).alloc (.cells #[.int .i64 0,.int .i64 0,.bool false,.int .i64 0,.int .i64 0,.int .i64 0,.string { data:=#[] },.string { data:=#[] },.string { data:=#[] },.int .i64 0] 67)
 have I0:=Blk.new (w.alloc (.cells #[.int .i64 1,.int .i64 t,.int .i64 f,.int .i64 0,.int .i64 0,.int .i64 0,.bool false,.int .i64 0,.int .i64 0,.int .i64 0,.string { data:=#[] },.string { data:=#[] },.string { data:=#[] },.int .i64 0,.int .i64 0,.int .i64 0,.int .i64 0,.slice none 0 0,.int .i64 0,.slice none 0 0] 205)) 67 #[.int .i64 0,.int .i64 0,.bool false,.int .i64 0,.int .i64 0,.int .i64 0,.string { data:=#[] },.string { data:=#[] },.string { data:=#[] },.int .i64 0]
 have q0:Below w.heap.size w ((w.alloc (.cells #[.int .i64 1,.int .i64 t,.int .i64 f,.int .i64 0,.int .i64 0,.int .i64 0,.bool false,.int .i64 0,.int .i64 0,.int .i64 0,.string { data:=#[] },.string { data:=#[] },.string { data:=#[] },.int .i64 0,.int .i64 0,.int .i64 0,.int .i64 0,.slice none 0 0,.int .i64 0,.slice none 0 0] 205)).alloc (.cells #[.int .i64 0,.int .i64 0,.bool false,.int .i64 0,.int .i64 0,.int .i64 0,.string { data:=#[] },.string { data:=#[] },.string { data:=#[] },.int .i64 0] 67)):=below_by
 go_enter Tryz.func171,Tryz.ntmps171
 (try clear cT0 fT0);have cT0:=T0.cell;have fT0:=T0.frozen;(try clear cI0 fI0);have cI0:=I0.cell;have fI0:=I0.frozen
 go_wp2_with fail
 refine (noSnap_none _).mono ?_
 rintro e w1 ⟨rfl,hb1⟩
 replace T0:=T0.bl hb1;replace I0:=I0.bl hb1
 replace q0:=bstep q0 hb1
 clear hb1 cT0 fT0 cI0 fI0
 (try clear cT0 fT0);have cT0:=T0.cell;have fT0:=T0.frozen;(try clear cI0 fI0);have cI0:=I0.cell;have fI0:=I0.frozen
 go_wp2_with fail
 refine (tnumber_any t _).mono ?_
 rintro e w' ⟨rfl,rfl⟩
 rw [ht]
 go_wp2_with fail
 go_ret
 exact ⟨rfl,q0⟩
set_option maxRecDepth 100000 in
theorem CheckLine_ok (i:Int) (x:Itm) (ht:numberOk i=true) (hx:checkItem x=0) (w:World) :
  Calls Tryz.prog 171 #[.agg #[.int .i64 2,.int .i64 0,.int .i64 0,.int .i64 i,.int .i64 x.term,.int .i64 x.time,.bool x.nop,.int .i64 x.client,.int .i64 x.seq,.int .i64 x.cmd.kind,.string x.cmd.key,.string x.cmd.field,.string x.cmd.text,.int .i64 x.cmd.n,.int .i64 0,.int .i64 0,.int .i64 0,.slice none 0 0,.int .i64 0,.slice none 0 0]] w fun e w'=>e = .returned (.int .i64 0)∧Below w.heap.size w w':=by
 have HC:=hide (fun w=>CheckItem_any x w)
 have T0:=(Blk.new w 205 #[.int .i64 2,.int .i64 0,.int .i64 0,.int .i64 i,.int .i64 x.term,.int .i64 x.time,.bool x.nop,.int .i64 x.client,.int .i64 x.seq,.int .i64 x.cmd.kind,.string x.cmd.key,.string x.cmd.field,.string x.cmd.text,.int .i64 x.cmd.n,.int .i64 0,.int .i64 0,.int .i64 0,.slice none 0 0,.int .i64 0,.slice none 0 0]).alloc (.cells #[.int .i64 0,.int .i64 0,.bool false,.int .i64 0,.int .i64 0,.int .i64 0,.string { data:=#[] },.string { data:=#[] },.string { data:=#[] },.int .i64 0] 67)
 have I0:=Blk.new (w.alloc (.cells #[.int .i64 2,.int .i64 0,.int .i64 0,.int .i64 i,.int .i64 x.term,.int .i64 x.time,.bool x.nop,.int .i64 x.client,.int .i64 x.seq,.int .i64 x.cmd.kind,.string x.cmd.key,.string x.cmd.field,.string x.cmd.text,.int .i64 x.cmd.n,.int .i64 0,.int .i64 0,.int .i64 0,.slice none 0 0,.int .i64 0,.slice none 0 0] 205)) 67 #[.int .i64 0,.int .i64 0,.bool false,.int .i64 0,.int .i64 0,.int .i64 0,.string { data:=#[] },.string { data:=#[] },.string { data:=#[] },.int .i64 0]
 have q0:Below w.heap.size w ((w.alloc (.cells #[.int .i64 2,.int .i64 0,.int .i64 0,.int .i64 i,.int .i64 x.term,.int .i64 x.time,.bool x.nop,.int .i64 x.client,.int .i64 x.seq,.int .i64 x.cmd.kind,.string x.cmd.key,.string x.cmd.field,.string x.cmd.text,.int .i64 x.cmd.n,.int .i64 0,.int .i64 0,.int .i64 0,.slice none 0 0,.int .i64 0,.slice none 0 0] 205)).alloc (.cells #[.int .i64 0,.int .i64 0,.bool false,.int .i64 0,.int .i64 0,.int .i64 0,.string { data:=#[] },.string { data:=#[] },.string { data:=#[] },.int .i64 0] 67)):=below_by
 go_enter Tryz.func171,Tryz.ntmps171
 (try clear cT0 fT0);have cT0:=T0.cell;have fT0:=T0.frozen;(try clear cI0 fI0);have cI0:=I0.cell;have fI0:=I0.frozen
 go_wp2_with fail
 refine (noSnap_none _).mono ?_
 rintro e w1 ⟨rfl,hb1⟩
 replace T0:=T0.bl hb1;replace I0:=I0.bl hb1
 replace q0:=bstep q0 hb1
 clear hb1 cT0 fT0 cI0 fI0
 (try clear cT0 fT0);have cT0:=T0.cell;have fT0:=T0.frozen;(try clear cI0 fI0);have cI0:=I0.cell;have fI0:=I0.frozen
 go_wp2_with fail
 refine (tnumber_any i _).mono ?_
 rintro e w' ⟨rfl,rfl⟩
 rw [ht]
 go_wp2_with fail
 refine (HC.out _).mono ?_
 rintro e w2 ⟨rfl,hb2⟩
 rw [hx]
 have q2:=bstep q0 hb2
 go_wp2_with fail
 go_ret
 exact ⟨rfl,q2⟩
theorem rec_size:(Tryz.prog.info? 205).map (·.size)=some 20:=by kernel_rfl
theorem twenty {r:List Value} (h:r.length=20):∃ v0 v1 v2 v3 v4 v5 v6 v7 v8 v9 v10 v11 v12 v13 v14 v15 v16 v17 v18 v19,r=[v0,v1,v2,v3,v4,v5,v6,v7,v8,v9,v10,v11,v12,v13,v14,v15,v16,v17,v18,v19]:=by
 match r,h with
 | [v0,v1,v2,v3,v4,v5,v6,v7,v8,v9,v10,v11,v12,v13,v14,v15,v16,v17,v18,v19],_=>exact ⟨v0,v1,v2,v3,v4,v5,v6,v7,v8,v9,v10,v11,v12,v13,v14,v15,v16,v17,v18,v19,rfl⟩
section
variable {W0 w w' w1 w2:World} {g bl base n c size:Nat} {st:RS} {A:Option Addr} {v v':Value} {rows:List (List Value)}
theorem Wrote.grew (h:Wrote w w1 g v v') {r:Option Nat} (hg:w1.grownBy w2 r) (hr:∀ k,r=some k→w.heap.size≤k):Wrote w w2 g v v':=
 ⟨hg.os.trans h.os,hg.tape.trans h.tape,hg.output.trans h.output,Nat.le_trans h.size hg.size,fun b hb hne hv=>(hg.block b (Nat.lt_of_lt_of_le hb h.size) (fun e=>by have:=hr b e.symm;omega)).trans (h.block b hb hne hv),h.row⟩
theorem Rd.grew (h:Rd W0 w g st) {r:Option Nat} (hg:w.grownBy w' r) (hr:∀ k,r=some k→W0.heap.size≤k∧k≠g):Rd W0 w' g st:=by
 have hlt:=h.lt
 obtain ⟨⟨A,n,c,h1,h2⟩,h3,h4,h5⟩:=h
 exact ⟨⟨A,n,c,(hg.block g hlt fun e=>(hr g e.symm).2 rfl).trans h1,h2⟩,h3.grown hg h3.size (fun k hk=>(hr k hk).1),h4,h5⟩
theorem Rd.dr (h:Rd W0 w g st):Rd W0 w.drew g st:=h.below (Below.refl _ w).drew
theorem Blk.wr {b:Nat} {t:TypeId} {cs:Array Value} (h:Blk w b t cs) (q:Wrote w w' g Nil Nil) (hg:b≠g):Blk w' b t cs:=h.wrote q hg (by simp [Nil,Value.ownBlock])
theorem Own.wr {e:TypeId} (h:Own w base e size v rows) (q:Wrote w w' g Nil Nil) (hg:g<base):Own w' base e size v rows:=
 h.keep fun k hk hlt=>q.block k hlt (by omega) (by simp [Nil,Value.ownBlock])
theorem Own.ge {e:TypeId} (h:Own w base e size v rows) {k:Nat} (hk:v.ownBlock=some k):base≤k:=by
 rcases h.form with ⟨rfl,_⟩|⟨b,cap,rfl,h1,_⟩
 ·cases hk
 ·simp only [Value.ownBlock,Option.some.injEq] at hk;omega
theorem Fr.wr (R:Rd W0 w g st) (q:Wrote w w' g Nil Nil):Fr w w':=by
 obtain ⟨⟨A,n,c,hB,_⟩,_,_,_⟩:=R
 exact ⟨q.size,fun k cs hb=>hb.wr q (blk_ne hb hB (by decide)),fun k cs hb=>hb.wr q (blk_ne hb hB (by decide)),fun k cs hb=>hb.wr q (blk_ne hb hB (by decide))⟩
theorem own_grew {e t':TypeId} {b:Nat} {cs:Array Value} (h:Own w base e size v rows) (R:Blk w b t' cs) (hg:w.grownBy w' (some b)) (hne:t'≠e:=by decide):Own w' base e size v rows:=by
 refine ⟨⟨h.1.1,?_⟩,h.2⟩
 rcases h.1.2 with e1|⟨k,cap,cur,e1,e2,e3,e4⟩
 ·exact .inl e1
 ·exact .inr ⟨k,cap,cur,e1,e2,grown_blk (t:=e) e3 hg (blk_ne (t:=e) e3 R (Ne.symm hne)),e4⟩
structure Keep2 (w w':World) (g bl:Nat):Prop where
 os:w'.os=w.os
 tape:w'.tape=w.tape
 output:w'.output=w.output
 size:w.heap.size≤w'.heap.size
 block:∀ b,b<w.heap.size→b≠g→b≠bl→w'.heap[b]?=w.heap[b]?
theorem Keep2.refl (w:World) (g bl:Nat):Keep2 w w g bl:=⟨rfl,rfl,rfl,Nat.le_refl _,fun _ _ _ _=>rfl⟩
theorem Keep2.wr (h:Keep2 w w1 g bl) (q:Wrote w1 w2 g Nil Nil):Keep2 w w2 g bl:=
 ⟨q.os.trans h.os,q.tape.trans h.tape,q.output.trans h.output,Nat.le_trans h.size q.size,fun b hb h1 h2=>(q.block b (Nat.lt_of_lt_of_le hb h.size) h1 (by simp [Nil,Value.ownBlock])).trans (h.block b hb h1 h2)⟩
theorem Keep2.grew (h:Keep2 w w1 g bl) {r:Option Nat} (hg:w1.grownBy w2 r) (hr:∀ k,r=some k→k=bl∨w.heap.size≤k):Keep2 w w2 g bl:=
 ⟨hg.os.trans h.os,hg.tape.trans h.tape,hg.output.trans h.output,Nat.le_trans h.size hg.size,fun b hb h1 h2=>(hg.block b (Nat.lt_of_lt_of_le hb h.size) (fun e=>by rcases hr b e.symm with h3|h3 <;> omega)).trans (h.block b hb h1 h2)⟩
theorem Keep2.below (h:Keep2 w w1 g bl) (hb:Below w1.heap.size w1 w2):Keep2 w w2 g bl:=
 ⟨hb.os.trans h.os,hb.tape.trans h.tape,hb.output.trans h.output,Nat.le_trans h.size hb.size,fun b hl h1 h2=>(hb.block b (Nat.lt_of_lt_of_le hl h.size)).trans (h.block b hl h1 h2)⟩
theorem Keep2.blk (h:Keep2 w w' g bl) {b:Nat} {t:TypeId} {cs:Array Value} (B:Blk w b t cs) (h1:b≠g) (h2:b≠bl):Blk w' b t cs:=(h.block b B.lt h1 h2).trans B
theorem Keep2.wrote {w0:World} (h:Keep2 w w' g bl) (q:Wrote w0 w g Nil Nil) (hb:w0.heap.size≤bl):Wrote w0 w' g Nil Nil:=
 ⟨h.os.trans q.os,h.tape.trans q.tape,h.output.trans q.output,Nat.le_trans q.size h.size,fun b hl h1 h2=>(h.block b (Nat.lt_of_lt_of_le hl q.size) h1 (by omega)).trans (q.block b hl h1 h2),.inl rfl⟩
theorem Keep2.fr {t:TypeId} {cs:Array Value} (h:Keep2 w w' g bl) (R:Rd W0 w g st) (B:Blk w bl t cs) (h1:t≠160:=by decide) (h2:t≠9:=by decide) (h3:t≠163:=by decide):Fr w w':=by
 obtain ⟨⟨A,n,c,hB,_⟩,_,_,_⟩:=R
 exact ⟨h.size,fun k cs hb=>h.blk hb (blk_ne hb hB (by decide)) (blk_ne hb B (Ne.symm h1)),fun k cs hb=>h.blk hb (blk_ne hb hB (by decide)) (blk_ne hb B (Ne.symm h2)),fun k cs hb=>h.blk hb (blk_ne hb hB (by decide)) (blk_ne hb B (Ne.symm h3))⟩
def JS {α:Type} (W0 w1:World) (g bl:Nat) (T:TypeId) (cells:Value→Array Value) (e:TypeId) (size:Nat) (rows:List α→List (List Value)) (w:World) (st:RS) (acc:List α):Prop:=
 Rd W0 w g st∧Keep2 w1 w g bl∧∃ A n c,Blk w bl T (cells (.slice A n c))∧Own w w1.heap.size e size (.slice A n c) (rows acc)
theorem JS.wr {α:Type} {T e:TypeId} {cells:Value→Array Value} {rows:List α→List (List Value)} {st':RS} {acc:List α} (h:JS W0 w1 g bl T cells e size rows w st acc) (R:Rd W0 w' g st') (q:Wrote w w' g Nil Nil) (hg:g<w1.heap.size) (hne:bl≠g):JS W0 w1 g bl T cells e size rows w' st' acc:=by
 obtain ⟨_,k,A,n,c,B,O⟩:=h
 exact ⟨R,k.wr q,A,n,c,B.wr q hne,O.wr q hg⟩
end
theorem each_any {α:Type} (P:RS→α×RS) (W0:World) (g:Nat) (J:World→RS→List α→Prop)
  (hR:∀ w st acc,J w st acc→Rd W0 w g st)
  (hK:∀ w w' st st' acc,J w st acc→Rd W0 w' g st'→Wrote w w' g Nil Nil→J w' st' acc)
  (f:FuncId) (caps:Array Value) (hf:∀ args w,(callFunc f args).run Tryz.prog w = .ok (.enter f args) w)
  (hS:∀ w st acc,acc.length≤255→J w st acc→Calls Tryz.prog f caps w fun e w'=>e = .returned (.tuple #[])∧J w' (P st).2 (acc ++ [(P st).1]))
  (st:RS) (w:World) (h:J w st []) :
  Calls Tryz.prog 203 #[.pointer (some ⟨g,0,none⟩),.func (.func f) #[] caps] w fun e w'=>e = .returned (.tuple #[])∧J w' (eachR P st).2 (eachR P st).1:=by
 have h0:=hR _ _ _ h
 have e1:eachR P st=loopR P (smallR st).1.toNat (smallR st).2 []:=rfl
 obtain ⟨s0,s1,s2⟩:=small_bd h0.u8
 have hT:=rsmall_any W0 g st w h0
 rw [e1]
 clear e1
 generalize smallR st=R at s0 s1 s2 hT
 obtain ⟨n,st1⟩:=R
 simp only at s0 s1 s2 hT ⊢
 obtain ⟨N,rfl⟩:=Int.eq_ofNat_of_zero_le s0
 have HT:=hide hT;have HS:=hide hS;have HK:=hide hK;have HR:=hide hR
 clear hT hS hK hR
 have hN:N<256:=by omega
 rw [show ((N:Nat):Int).toNat=N from rfl]
 obtain ⟨Z,hZ⟩:∃ Z,Hid (Z=loopR P N st1 []):=⟨_,hide rfl⟩
 rw [←hZ.out]
 go_enter Tryz.func203,Tryz.ntmps203
 go_wp2_with fail
 refine HT.out.mono ?_
 rintro e w1 ⟨rfl,hR1,hW1⟩
 have hJ1:=HK.out _ _ _ _ _ h hR1 hW1
 clear h hR1 hW1 h0
 go_wp2_with fail
 go_loopw [4] (fun s4 wr=>∃ k:Nat,k≤N∧s4 = .int .i64 (k:Int)∧∃ st' acc,J wr st' acc∧Hid (loopR P k st' acc=Z)∧acc.length+k≤N) (fun s4 _=>(intOf s4).toNat)
 case atStart=>exact ⟨N,by omega,rfl,st1,[],hJ1,hide hZ.out.symm,by simp⟩
 case round=>
  clear hJ1
  obtain ⟨k,hk,rfl,st',acc,hJ,HQ,hl⟩:=hrel
  have hRd:=HR.out _ _ _ hJ
  obtain ⟨⟨A,n,c,hB,hSl⟩,-,-,-⟩:=hRd
  obtain ⟨l',sh⟩:=st'
  simp only at hB
  (try clear chB fhB);have chB:=hB.cell;have fhB:=hB.frozen
  cases k with
  | zero=>
   go_wp2_with fail
   go_end0
   have:=HQ.out
   simp only [loopR] at this
   rw [←this]
   exact ⟨rfl,hJ⟩
  | succ k=>
   cases sh
   ·go_wp2_with fail
    refine (HS.out _ _ _ (by omega) hJ).mono ?_
    rintro e w2 ⟨rfl,hJ2⟩
    go_wp2_with fail
    go_roundw
    case rel=>exact ⟨k,by omega,by go_num,_,_,hJ2,hide (by rw [←HQ.out];simp [loopR]),by simp;omega⟩
    case measure=>simp [intOf]
   ·go_wp2_with fail
    go_end0
    have:=HQ.out
    simp only [loopR,if_true] at this
    rw [←this]
    exact ⟨rfl,hJ⟩
set_option maxRecDepth 100000 in
theorem texts1_any (W0 w1:World) (g br bl:Nat) (Br1:Blk w1 br 282 #[.pointer (some ⟨g,0,none⟩)]) (hbg:br≠g) (hbb:br≠bl) (hbl:bl≠g) (hW:W0.heap.size≤w1.heap.size) (hWb:W0.heap.size≤bl) (hg1:g<w1.heap.size) (hb1:bl<w1.heap.size)
  (w:World) (st:RS) (acc:List ByteArray) (hl:acc.length≤255) (h:JS W0 w1 g bl 74 (fun s=>#[s]) 9 1 strRows w st acc) :
  Calls Tryz.prog 230 #[.pointer (some ⟨bl,0,none⟩),.pointer (some ⟨br,0,none⟩)] w fun e w'=>e = .returned (.tuple #[])∧JS W0 w1 g bl 74 (fun s=>#[s]) 9 1 strRows w' (textRd st).2 (acc ++ [(textRd st).1]):=by
 obtain ⟨R0,K2,A,n,c,Bl,O⟩:=h
 replace Bl:Blk w bl 74 #[.slice A n c]:=Bl
 have Br:=K2.blk Br1 hbg hbb
 have hbL:=Bl.lt
 have hbR:=Br.lt
 have hsz:=K2.size
 have hrl:(strRows acc).length=acc.length:=by simp [strRows]
 have H0:=fun w' h=>rtext_any W0 g st w' h
 generalize textRd st=X0 at H0 ⊢
 obtain ⟨x0,s0⟩:=X0
 simp only at H0 ⊢
 have HC0:=hide H0
 clear H0
 replace R0:=R0.dr
 replace K2:=K2.below (Below.refl _ w).drew
 replace Bl:=Bl.drew
 replace Br:=Br.drew
 replace O:=Own.drew O
 go_enter Tryz.func230,Tryz.ntmps230
 go_wp2_with fail
 refine wp_region_x (l:=[5]) (S:=fun w'=>w'.cell? ⟨bl,0,none⟩=some (.slice A n c)∧w'.cell? ⟨br,0,none⟩=some (.pointer (some ⟨g,0,none⟩))) (by kernel_rfl) ⟨Bl.cell 0,Br.cell 0⟩ (fun hS=>?_)
 obtain ⟨wd,hwd⟩:∃ wd,wd=w.drew:=⟨_,rfl⟩
 rw [←hwd] at hS R0 K2 Bl Br O ⊢
 have hsd:wd.heap.size=w.heap.size:=by rw [hwd];rfl
 rw [←hsd] at hbL hbR hsz
 clear hwd hsd
 refine wpAnyX_tq 0 ?_
 refine wpAnyX_tq 1 ?_
 refine wpAnyX_oq 2 fun K hK=>?_
 go_wp2_with fail
 refine (HC0.out _ R0).mono ?_
 rintro e c0 ⟨rfl,R1,q⟩
 go_wp2_with fail
 replace K2:=K2.wr q
 replace Bl:=Bl.wr q hbl
 replace Br:=Br.wr q hbg
 replace O:=O.wr q hg1
 replace hbL:=Bl.lt
 replace hsz:=K2.size
 clear R0 q
 have R0:=R1
 clear R1
 refine hK.out _ _ (Or.inr ⟨Bl.cell 0,Br.cell 0⟩) (fun hS=>?_)
 replace hS:=hS.resolve_left (by decide)
 clear hK K
 refine wpAnyX_oq 3 fun K hK=>?_
 go_wp2_with fail
 have B1:=Bl.alloc (.cells #[.string x0] 9)
 have C1:=Br.alloc (.cells #[.string x0] 9)
 have O1:=O.alloc (.cells #[.string x0] 9)
 have R1:=R0.alloc (.cells #[.string x0] 9)
 have K1:=K2.below (show Below c0.heap.size c0 (c0.alloc (.cells #[.string x0] 9)) from below_by)
 refine hK.out _ _ (Or.inr ⟨B1.cell 0,C1.cell 0⟩) (fun hS=>?_)
 replace hS:=hS.resolve_left (by decide)
 clear hK K
 refine wpAnyX_oq 4 fun K hK=>?_
 refine wpList_push_g rfl _ _ _ rfl Tryz.underlying74 text_info rfl (by omega) (by rfl) O (H:=c0.heap.size) rfl (by rfl) (row:=#[.string x0]) rfl (all_one rfl) ?p1 ?p2 ?p3 ?p4
 case p1=>rw [hrl];unfold maxLen;omega
 case p2=>rw [hrl];omega
 case p3=>omega
 case p4=>
 intro A9 n9 c9 w9 O9 gr9
 have B9:=blk_other B1 O1 gr9
 have C9:=blk_other C1 O1 gr9
 have R9:=R1.grew gr9 (fun k hk=>by have:=O1.ge hk;omega)
 have K9:=K1.grew gr9 (fun k hk=>Or.inr (O1.ge hk))
 refine hK.out _ _ (Or.inr ⟨B9.cell 0,C9.cell 0⟩) (fun hS=>?_)
 replace hS:=hS.resolve_left (by decide)
 clear hK K gr9 B1 C1 O1 R1 K1 O Bl Br R0 K2
 clear hS
 (try clear cB9 fB9);have cB9:=B9.cell;have fB9:=B9.frozen
 refine wpAnyX_oq 5 fun K hK=>?_
 go_wp2_with fail
 have gr:=grown_setRow_cell w9 bl 0 (.slice A9 n9 c9)
 have Ba:=B9.set' (i:=0) (u:=.slice A9 n9 c9) rfl
 have Oa:=own_grew O9 B9 gr
 have Ra:=R9.grew gr (fun k hk=>by injection hk with hk;omega)
 have Ka:=K9.grew gr (fun k hk=>by injection hk with hk;omega)
 refine hK.out _ _ (Or.inl (by decide)) (fun hS=>?_)
 clear hK K hS gr cB9 fB9 R9 K9 B9 O9 C9
 refine wpAnyX_done (by kernel_rfl) ?_ _
 go_wp2_with fail
 go_end0
 refine ⟨rfl,Ra,Ka,A9,n9,c9,Ba,?_⟩
 simpa [strRows] using Oa
set_option maxRecDepth 100000 in
theorem value1_any (W0 w1:World) (g br bl:Nat) (k cn:Int) (t:ByteArray) (Br1:Blk w1 br 282 #[.pointer (some ⟨g,0,none⟩)]) (hbg:br≠g) (hbb:br≠bl) (hbl:bl≠g) (hW:W0.heap.size≤w1.heap.size) (hWb:W0.heap.size≤bl) (hg1:g<w1.heap.size) (hb1:bl<w1.heap.size)
  (w:World) (st:RS) (acc:List Pr) (hl:acc.length≤255) (h:JS W0 w1 g bl 82 (fun s=>#[.int .i64 k,.string t,.int .i64 cn,s,.slice none 0 0,.slice none 0 0]) 160 2 pairRows w st acc) :
  Calls Tryz.prog 228 #[.pointer (some ⟨bl,0,none⟩),.pointer (some ⟨br,0,none⟩)] w fun e w'=>e = .returned (.tuple #[])∧JS W0 w1 g bl 82 (fun s=>#[.int .i64 k,.string t,.int .i64 cn,s,.slice none 0 0,.slice none 0 0]) 160 2 pairRows w' (pairR st).2 (acc ++ [(pairR st).1]):=by
 obtain ⟨R0,K2,A,n,c,Bl,O⟩:=h
 replace Bl:Blk w bl 82 #[.int .i64 k,.string t,.int .i64 cn,.slice A n c,.slice none 0 0,.slice none 0 0]:=Bl
 have Br:=K2.blk Br1 hbg hbb
 have hbL:=Bl.lt
 have hbR:=Br.lt
 have hsz:=K2.size
 have hrl:(pairRows acc).length=acc.length:=by simp [pairRows]
 unfold pairR bindR
 simp only [bindR]
 have H0:=fun w' h=>rtext_any W0 g st w' h
 generalize textRd st=X0 at H0 ⊢
 obtain ⟨x0,s0⟩:=X0
 simp only at H0 ⊢
 have HC0:=hide H0
 clear H0
 have H1:=fun w' h=>rtext_any W0 g s0 w' h
 generalize textRd s0=X1 at H1 ⊢
 obtain ⟨x1,s1⟩:=X1
 simp only at H1 ⊢
 have HC1:=hide H1
 clear H1
 replace R0:=R0.dr
 replace K2:=K2.below (Below.refl _ w).drew
 replace Bl:=Bl.drew
 replace Br:=Br.drew
 replace O:=Own.drew O
 go_enter Tryz.func228,Tryz.ntmps228
 go_wp2_with fail
 refine wp_region_x (l:=[10]) (S:=fun w'=>w'.cell? ⟨bl,3,none⟩=some (.slice A n c)∧w'.cell? ⟨br,0,none⟩=some (.pointer (some ⟨g,0,none⟩))) (by kernel_rfl) ⟨Bl.cell 3,Br.cell 0⟩ (fun hS=>?_)
 obtain ⟨wd,hwd⟩:∃ wd,wd=w.drew:=⟨_,rfl⟩
 rw [←hwd] at hS R0 K2 Bl Br O ⊢
 have hsd:wd.heap.size=w.heap.size:=by rw [hwd];rfl
 rw [←hsd] at hbL hbR hsz
 clear hwd hsd
 refine wpAnyX_tq 0 ?_
 refine wpAnyX_tq 1 ?_
 refine wpAnyX_tq 2 ?_
 refine wpAnyX_tq 4 ?_
 refine wpAnyX_oq 3 fun K hK=>?_
 go_wp2_with fail
 refine (HC0.out _ R0).mono ?_
 rintro e c0 ⟨rfl,R1,q⟩
 go_wp2_with fail
 replace K2:=K2.wr q
 replace Bl:=Bl.wr q hbl
 replace Br:=Br.wr q hbg
 replace O:=O.wr q hg1
 replace hbL:=Bl.lt
 replace hsz:=K2.size
 clear R0 q
 have R0:=R1
 clear R1
 refine hK.out _ _ (Or.inr ⟨Bl.cell 3,Br.cell 0⟩) (fun hS=>?_)
 replace hS:=hS.resolve_left (by decide)
 clear hK K
 refine wpAnyX_oq 5 fun K hK=>?_
 go_wp2_with fail
 refine (HC1.out _ R0).mono ?_
 rintro e c1 ⟨rfl,R1,q⟩
 go_wp2_with fail
 replace K2:=K2.wr q
 replace Bl:=Bl.wr q hbl
 replace Br:=Br.wr q hbg
 replace O:=O.wr q hg1
 replace hbL:=Bl.lt
 replace hsz:=K2.size
 clear R0 q
 have R0:=R1
 clear R1
 refine hK.out _ _ (Or.inr ⟨Bl.cell 3,Br.cell 0⟩) (fun hS=>?_)
 replace hS:=hS.resolve_left (by decide)
 clear hK K
 refine wpAnyX_tq 6 ?_
 refine wpAnyX_oq 7 fun K hK=>?_
 go_wp2_with fail
 have B1:=Bl.alloc (.cells #[.string x0,.string x1] 160)
 have C1:=Br.alloc (.cells #[.string x0,.string x1] 160)
 have O1:=O.alloc (.cells #[.string x0,.string x1] 160)
 have R1:=R0.alloc (.cells #[.string x0,.string x1] 160)
 have K1:=K2.below (show Below c1.heap.size c1 (c1.alloc (.cells #[.string x0,.string x1] 160)) from below_by)
 refine hK.out _ _ (Or.inr ⟨B1.cell 3,C1.cell 0⟩) (fun hS=>?_)
 replace hS:=hS.resolve_left (by decide)
 clear hK K
 refine wpAnyX_oq 8 fun K hK=>?_
 refine wpList_push_g rfl _ _ _ rfl Tryz.underlying79 pair_info rfl (by omega) (by rfl) O (H:=c1.heap.size) rfl (by rfl) (row:=#[.string x0,.string x1]) rfl (all_one rfl) ?p1 ?p2 ?p3 ?p4
 case p1=>rw [hrl];unfold maxLen;omega
 case p2=>rw [hrl];omega
 case p3=>omega
 case p4=>
 intro A9 n9 c9 w9 O9 gr9
 have B9:=blk_other B1 O1 gr9
 have C9:=blk_other C1 O1 gr9
 have R9:=R1.grew gr9 (fun k hk=>by have:=O1.ge hk;omega)
 have K9:=K1.grew gr9 (fun k hk=>Or.inr (O1.ge hk))
 refine hK.out _ _ (Or.inr ⟨B9.cell 3,C9.cell 0⟩) (fun hS=>?_)
 replace hS:=hS.resolve_left (by decide)
 clear hK K gr9 B1 C1 O1 R1 K1 O Bl Br R0 K2
 refine wpAnyX_ps 9 ?_
 clear hS
 (try clear cB9 fB9);have cB9:=B9.cell;have fB9:=B9.frozen
 refine wpAnyX_oq 10 fun K hK=>?_
 go_wp2_with fail
 have gr:=grown_setRow_cell w9 bl 3 (.slice A9 n9 c9)
 have Ba:=B9.set' (i:=3) (u:=.slice A9 n9 c9) rfl
 have Oa:=own_grew O9 B9 gr
 have Ra:=R9.grew gr (fun k hk=>by injection hk with hk;omega)
 have Ka:=K9.grew gr (fun k hk=>by injection hk with hk;omega)
 refine hK.out _ _ (Or.inl (by decide)) (fun hS=>?_)
 clear hK K hS gr cB9 fB9 R9 K9 B9 O9 C9
 refine wpAnyX_done (by kernel_rfl) ?_ _
 go_wp2_with fail
 go_end0
 refine ⟨rfl,Ra,Ka,A9,n9,c9,Ba,?_⟩
 simpa [pairRows,Pr.cells] using Oa
set_option maxRecDepth 100000 in
theorem value2_any (W0 w1:World) (g br bl:Nat) (k cn:Int) (t:ByteArray) (P Q:Value) (Br1:Blk w1 br 282 #[.pointer (some ⟨g,0,none⟩)]) (hbg:br≠g) (hbb:br≠bl) (hbl:bl≠g) (hW:W0.heap.size≤w1.heap.size) (hWb:W0.heap.size≤bl) (hg1:g<w1.heap.size) (hb1:bl<w1.heap.size)
  (w:World) (st:RS) (acc:List Sc) (hl:acc.length≤255) (h:JS W0 w1 g bl 82 (fun s=>#[.int .i64 k,.string t,.int .i64 cn,P,Q,s]) 163 2 scoreRows w st acc) :
  Calls Tryz.prog 229 #[.pointer (some ⟨bl,0,none⟩),.pointer (some ⟨br,0,none⟩)] w fun e w'=>e = .returned (.tuple #[])∧JS W0 w1 g bl 82 (fun s=>#[.int .i64 k,.string t,.int .i64 cn,P,Q,s]) 163 2 scoreRows w' (scoreR st).2 (acc ++ [(scoreR st).1]):=by
 obtain ⟨R0,K2,A,n,c,Bl,O⟩:=h
 replace Bl:Blk w bl 82 #[.int .i64 k,.string t,.int .i64 cn,P,Q,.slice A n c]:=Bl
 have Br:=K2.blk Br1 hbg hbb
 have hbL:=Bl.lt
 have hbR:=Br.lt
 have hsz:=K2.size
 have hrl:(scoreRows acc).length=acc.length:=by simp [scoreRows]
 unfold scoreR bindR
 simp only [bindR]
 have H0:=fun w' h=>rtext_any W0 g st w' h
 generalize textRd st=X0 at H0 ⊢
 obtain ⟨x0,s0⟩:=X0
 simp only at H0 ⊢
 have HC0:=hide H0
 clear H0
 have H1:=fun w' h=>rnumber_any W0 g s0 w' h
 generalize numR s0=X1 at H1 ⊢
 obtain ⟨x1,s1⟩:=X1
 simp only at H1 ⊢
 have HC1:=hide H1
 clear H1
 replace R0:=R0.dr
 replace K2:=K2.below (Below.refl _ w).drew
 replace Bl:=Bl.drew
 replace Br:=Br.drew
 replace O:=Own.drew O
 go_enter Tryz.func229,Tryz.ntmps229
 go_wp2_with fail
 refine wp_region_x (l:=[10]) (S:=fun w'=>w'.cell? ⟨bl,5,none⟩=some (.slice A n c)∧w'.cell? ⟨br,0,none⟩=some (.pointer (some ⟨g,0,none⟩))) (by kernel_rfl) ⟨Bl.cell 5,Br.cell 0⟩ (fun hS=>?_)
 obtain ⟨wd,hwd⟩:∃ wd,wd=w.drew:=⟨_,rfl⟩
 rw [←hwd] at hS R0 K2 Bl Br O ⊢
 have hsd:wd.heap.size=w.heap.size:=by rw [hwd];rfl
 rw [←hsd] at hbL hbR hsz
 clear hwd hsd
 refine wpAnyX_tq 0 ?_
 refine wpAnyX_tq 1 ?_
 refine wpAnyX_tq 2 ?_
 refine wpAnyX_tq 4 ?_
 refine wpAnyX_oq 3 fun K hK=>?_
 go_wp2_with fail
 refine (HC0.out _ R0).mono ?_
 rintro e c0 ⟨rfl,R1,q⟩
 go_wp2_with fail
 replace K2:=K2.wr q
 replace Bl:=Bl.wr q hbl
 replace Br:=Br.wr q hbg
 replace O:=O.wr q hg1
 replace hbL:=Bl.lt
 replace hsz:=K2.size
 clear R0 q
 have R0:=R1
 clear R1
 refine hK.out _ _ (Or.inr ⟨Bl.cell 5,Br.cell 0⟩) (fun hS=>?_)
 replace hS:=hS.resolve_left (by decide)
 clear hK K
 refine wpAnyX_oq 5 fun K hK=>?_
 go_wp2_with fail
 refine (HC1.out _ R0).mono ?_
 rintro e c1 ⟨rfl,R1,q⟩
 go_wp2_with fail
 replace K2:=K2.wr q
 replace Bl:=Bl.wr q hbl
 replace Br:=Br.wr q hbg
 replace O:=O.wr q hg1
 replace hbL:=Bl.lt
 replace hsz:=K2.size
 clear R0 q
 have R0:=R1
 clear R1
 refine hK.out _ _ (Or.inr ⟨Bl.cell 5,Br.cell 0⟩) (fun hS=>?_)
 replace hS:=hS.resolve_left (by decide)
 clear hK K
 refine wpAnyX_tq 6 ?_
 refine wpAnyX_oq 7 fun K hK=>?_
 go_wp2_with fail
 have B1:=Bl.alloc (.cells #[.string x0,.int .i64 x1] 163)
 have C1:=Br.alloc (.cells #[.string x0,.int .i64 x1] 163)
 have O1:=O.alloc (.cells #[.string x0,.int .i64 x1] 163)
 have R1:=R0.alloc (.cells #[.string x0,.int .i64 x1] 163)
 have K1:=K2.below (show Below c1.heap.size c1 (c1.alloc (.cells #[.string x0,.int .i64 x1] 163)) from below_by)
 refine hK.out _ _ (Or.inr ⟨B1.cell 5,C1.cell 0⟩) (fun hS=>?_)
 replace hS:=hS.resolve_left (by decide)
 clear hK K
 refine wpAnyX_oq 8 fun K hK=>?_
 refine wpList_push_g rfl _ _ _ rfl Tryz.underlying80 score_info rfl (by omega) (by rfl) O (H:=c1.heap.size) rfl (by rfl) (row:=#[.string x0,.int .i64 x1]) rfl (all_one rfl) ?p1 ?p2 ?p3 ?p4
 case p1=>rw [hrl];unfold maxLen;omega
 case p2=>rw [hrl];omega
 case p3=>omega
 case p4=>
 intro A9 n9 c9 w9 O9 gr9
 have B9:=blk_other B1 O1 gr9
 have C9:=blk_other C1 O1 gr9
 have R9:=R1.grew gr9 (fun k hk=>by have:=O1.ge hk;omega)
 have K9:=K1.grew gr9 (fun k hk=>Or.inr (O1.ge hk))
 refine hK.out _ _ (Or.inr ⟨B9.cell 5,C9.cell 0⟩) (fun hS=>?_)
 replace hS:=hS.resolve_left (by decide)
 clear hK K gr9 B1 C1 O1 R1 K1 O Bl Br R0 K2
 refine wpAnyX_ps 9 ?_
 clear hS
 (try clear cB9 fB9);have cB9:=B9.cell;have fB9:=B9.frozen
 refine wpAnyX_oq 10 fun K hK=>?_
 go_wp2_with fail
 have gr:=grown_setRow_cell w9 bl 5 (.slice A9 n9 c9)
 have Ba:=B9.set' (i:=5) (u:=.slice A9 n9 c9) rfl
 have Oa:=own_grew O9 B9 gr
 have Ra:=R9.grew gr (fun k hk=>by injection hk with hk;omega)
 have Ka:=K9.grew gr (fun k hk=>by injection hk with hk;omega)
 refine hK.out _ _ (Or.inl (by decide)) (fun hS=>?_)
 clear hK K hS gr cB9 fB9 R9 K9 B9 O9 C9
 refine wpAnyX_done (by kernel_rfl) ?_ _
 go_wp2_with fail
 go_end0
 refine ⟨rfl,Ra,Ka,A9,n9,c9,Ba,?_⟩
 simpa [scoreRows,Sc.cells] using Oa
theorem Pend.wr {b:Bool} {base g:Nat} {t:TypeId} {z:Array Value} {x:Value} {w w':World} (h:Pend b base t z x w) (q:Wrote w w' g Nil Nil) (hg:g<base):Pend b base t z x w':=fun hh=>by
 obtain ⟨p,h1,h2,h3⟩:=h hh
 exact ⟨p,h1,h2,h3.wr q (by omega)⟩
structure PaSl (w:World) (Y:Option Addr) (m d:Nat) (l:List Pr):Prop where
 sl:Sl w 2 Y m d (pairRows l)
 tp:Tp w Y 160
theorem PaSl.fr {w w':World} {Y:Option Addr} {m d:Nat} {l:List Pr} (h:PaSl w Y m d l) (f:Fr w w'):PaSl w' Y m d l:=
 ⟨h.sl.kept f.size fun a ha _=>by obtain ⟨cs,hc⟩:=h.tp a ha;exact (f.p _ _ hc).trans hc.symm,fun a ha=>by obtain ⟨cs,hc⟩:=h.tp a ha;exact ⟨cs,f.p _ _ hc⟩⟩
theorem rtexts_any (W0:World) (g:Nat) (st:RS) (w:World) (h:Rd W0 w g st) :
  Calls Tryz.prog 209 #[.pointer (some ⟨g,0,none⟩)] w fun e w'=>∃ Y m d,e = .returned (.slice Y m d)∧TxSl w' Y m d (textsR st).1∧Rd W0 w' g (textsR st).2∧Wrote w w' g Nil Nil:=by
 have hlt:=h.lt
 have hbig:=h.big
 have B1:Blk ((w.alloc (.cells #[.pointer (some ⟨g,0,none⟩)] 282)).alloc (.cells #[.slice none 0 0] 74)) w.heap.size 282 #[.pointer (some ⟨g,0,none⟩)]:=(Blk.new w _ _).alloc _
 have B2:Blk ((w.alloc (.cells #[.pointer (some ⟨g,0,none⟩)] 282)).alloc (.cells #[.slice none 0 0] 74)) (w.heap.size+1) 74 #[.slice none 0 0]:=Blk.new' _ _ _ (by simp)
 have R1:Rd W0 ((w.alloc (.cells #[.pointer (some ⟨g,0,none⟩)] 282)).alloc (.cells #[.slice none 0 0] 74)) g st:=(h.alloc _).alloc _
 have Q1:Wrote w ((w.alloc (.cells #[.pointer (some ⟨g,0,none⟩)] 282)).alloc (.cells #[.slice none 0 0] 74)) g Nil Nil:=(Wrote.refl w g Nil).post below_by
 go_enter Tryz.func209,Tryz.ntmps209
 (try clear cB1 fB1);have cB1:=B1.cell;have fB1:=B1.frozen;(try clear cB2 fB2);have cB2:=B2.cell;have fB2:=B2.frozen
 go_wp2_with fail
 obtain ⟨w1,hw1⟩:∃ w1,w1=((w.alloc (.cells #[.pointer (some ⟨g,0,none⟩)] 282)).alloc (.cells #[.slice none 0 0] 74)):=⟨_,rfl⟩
 rw [←hw1] at B1 B2 R1 Q1 ⊢
 have hb1:=B2.lt
 clear hw1 cB1 fB1 cB2 fB2
 refine (each_any textRd W0 g (JS W0 w1 g (w.heap.size+1) 74 (fun s=>#[s]) 9 1 strRows) (fun _ _ _ h=>h.1) (fun _ _ _ _ _ h R q=>h.wr R q (by omega) (by omega)) 230 #[.pointer (some ⟨w.heap.size+1,0,none⟩),.pointer (some ⟨w.heap.size,0,none⟩)] (run_enter Tryz.func230 (by kernel_rfl) (by kernel_rfl))
  (fun w st acc hl h=>texts1_any W0 w1 g _ _ B1 (by omega) (by omega) (by omega) (by omega) (by omega) (by omega) hb1 w st acc hl h) st w1 ⟨R1,Keep2.refl _ _ _,none,0,0,B2,Own.nil⟩).mono ?_
 rintro e w2 ⟨rfl,R2,K2,A,n,c,C2,O2⟩
 have C2:Blk w2 (w.heap.size+1) 74 #[.slice A n c]:=C2
 have Q2:=K2.wrote Q1 (by omega)
 have hb2:=C2.lt
 (try clear cC2 fC2);have cC2:=C2.cell;have fC2:=C2.frozen
 go_wp2_with fail
 go_ret
 exact ⟨A,n,c,rfl,⟨O2.sl',own_tp O2⟩,R2,Q2⟩
set_option maxRecDepth 100000 in
theorem rvalue_any (W0:World) (g:Nat) (st:RS) (w:World) (h:Rd W0 w g st) :
  Calls Tryz.prog 206 #[.pointer (some ⟨g,0,none⟩)] w fun e w'=>∃ A1 n1 c1 A2 n2 c2 A3 n3 c3,e = .returned (.agg #[.int .i64 (valueR st).1.kind,.string (valueR st).1.text,.int .i64 (valueR st).1.count,.slice A1 n1 c1,.slice A2 n2 c2,.slice A3 n3 c3])∧VSl w' (valueR st).1 A1 n1 c1 A2 n2 c2 A3 n3 c3∧Tps w' A1 A2 A3∧Rd W0 w' g (valueR st).2∧Wrote w w' g Nil Nil:=by
 have hlt:=h.lt
 have hbig:=h.big
 unfold valueR
 simp only [bindR]
 have H0:=fun w' h=>rsmall_any W0 g st w' h
 generalize smallR st=X0 at H0 ⊢
 obtain ⟨x0,s0⟩:=X0
 simp only at H0 ⊢
 have HC0:=hide H0
 clear H0
 have H1:=fun w' h=>rtext_any W0 g s0 w' h
 generalize textRd s0=X1 at H1 ⊢
 obtain ⟨x1,s1⟩:=X1
 simp only at H1 ⊢
 have HC1:=hide H1
 clear H1
 have H2:=fun w' h=>rnumber_any W0 g s1 w' h
 generalize numR s1=X2 at H2 ⊢
 obtain ⟨x2,s2⟩:=X2
 simp only at H2 ⊢
 have HC2:=hide H2
 clear H2
 generalize h3:eachR pairR s2=X3
 obtain ⟨ps,s3⟩:=X3
 simp only
 have HX3:=hide h3
 clear h3
 generalize h4:textsR s3=X4
 obtain ⟨is_,s4⟩:=X4
 simp only
 have HX4:=hide h4
 clear h4
 generalize h5:eachR scoreR s4=X5
 obtain ⟨ss,s5⟩:=X5
 simp only
 have HX5:=hide h5
 clear h5
 have Br0:Blk ((w.alloc (.cells #[.pointer (some ⟨g,0,none⟩)] 282)).alloc (.cells #[.int .i64 0,.string { data:=#[] },.int .i64 0,.slice none 0 0,.slice none 0 0,.slice none 0 0] 82)) w.heap.size 282 #[.pointer (some ⟨g,0,none⟩)]:=(Blk.new w _ _).alloc _
 have Rb0:Blk ((w.alloc (.cells #[.pointer (some ⟨g,0,none⟩)] 282)).alloc (.cells #[.int .i64 0,.string { data:=#[] },.int .i64 0,.slice none 0 0,.slice none 0 0,.slice none 0 0] 82)) (w.heap.size+1) 82 #[.int .i64 0,.string { data:=#[] },.int .i64 0,.slice none 0 0,.slice none 0 0,.slice none 0 0]:=Blk.new' _ _ _ (by simp)
 have R0:Rd W0 ((w.alloc (.cells #[.pointer (some ⟨g,0,none⟩)] 282)).alloc (.cells #[.int .i64 0,.string { data:=#[] },.int .i64 0,.slice none 0 0,.slice none 0 0,.slice none 0 0] 82)) g st:=(h.alloc _).alloc _
 have Q0:Wrote w ((w.alloc (.cells #[.pointer (some ⟨g,0,none⟩)] 282)).alloc (.cells #[.int .i64 0,.string { data:=#[] },.int .i64 0,.slice none 0 0,.slice none 0 0,.slice none 0 0] 82)) g Nil Nil:=(Wrote.refl w g Nil).post below_by
 go_enter Tryz.func206,Tryz.ntmps206
 go_wp2_with fail
 obtain ⟨w1,hw1⟩:∃ w1,w1=((w.alloc (.cells #[.pointer (some ⟨g,0,none⟩)] 282)).alloc (.cells #[.int .i64 0,.string { data:=#[] },.int .i64 0,.slice none 0 0,.slice none 0 0,.slice none 0 0] 82)):=⟨_,rfl⟩
 rw [←hw1] at Br0 Rb0 R0 Q0 ⊢
 have hs1:w1.heap.size=w.heap.size+2:=by rw [hw1];simp
 clear hw1
 have Br:=Br0
 have hbg:w.heap.size≠g:=by omega
 have hgz:g<w1.heap.size:=by omega
 have hsG:∀ st' w',(Rd W0 w' g st'∧Wrote w1 w' g Nil Nil)→w'.cell? ⟨w.heap.size,0,none⟩=some (.pointer (some ⟨g,0,none⟩)):=fun _ _ q=>(Br.wr q.2 hbg).cell 0
 refine wp_region_x (l:=[]) (S:=fun w'=>w'.cell? ⟨w.heap.size,0,none⟩=some (.pointer (some ⟨g,0,none⟩))) (by kernel_rfl) (Br.drew.cell 0) (fun hS=>?_)
 refine wpAnyX_tq 0 ?_
 refine wpAnyX_tq 2 ?_
 refine wpAnyX_tq 4 ?_
 have HSG:=hide hsG
 clear hsG hS
 refine wpX_startA (n:=5+left1 false) (listed:=(fun b_=>#[true,false,true,false,true,false,false,b_,false]) false) (j:=7) (d:=3) (t:=82) (z:=#[.int .i64 0,.string { data:=#[] },.int .i64 0,.slice none 0 0,.slice none 0 0,.slice none 0 0]) ?al1v ?alnv ?allv (fun al1=>?alrv);(case al1v=>exact ⟨⟨_,rfl,rfl,rfl,fun a w=>by simp [go_sem,execOp]⟩⟩);(case alnv=>kernel_rfl);(case allv=>kernel_rfl)
 refine' wpX_phaseA' (f:=4) (i:=1) (L:=(fun b_=>#[true,false,true,false,true,false,false,b_,false])) (L':=(fun b_=>#[true,true,true,false,true,false,false,b_,false])) (base:=w1.heap.size) (G:=(fun w'=>Rd W0 w' g st∧Wrote w1 w' g Nil Nil)) (x:=undef) al1 ?an1v ?al1v ?aa1v ?ar1v ?ai1v ?ag1v ?ae11v ?ae31v ?ap11v (fun w' q=>HSG.out _ w' q) (fun w' o q=>⟨q.1.alloc o,q.2.alloc o⟩) (fun w' q=>q.2.size) ?aw1v ?am1v;(case an1v=>rfl);(case al1v=>rfl);(case aa1v=>rfl);(case ar1v=>kernel_rfl);(case ai1v=>rfl);(case ag1v=>rfl);(case ae11v=>rfl);(case ae31v=>(intros;rfl));(case ap11v=>(intros;rfl))
 (case aw1v=>exact ⟨R0.dr,(Wrote.refl w1 g Nil).post (Below.refl _ w1).drew⟩)
 intro b_ x_ wp0 hG_ hx_ K_ hK_;(try simp only [Act.put,List.setIfInBounds_toArray,List.set_cons_zero,List.set_cons_succ,List.getElem_toArray,List.getElem_cons_zero,List.getElem_cons_succ])
 go_wp2_with fail
 refine (HC0.out _ hG_.1).mono ?_
 rintro e c0 ⟨rfl,Ra,qa⟩
 go_wp2_with fail
 have GA:Rd W0 c0 g s0∧Wrote w1 c0 g Nil Nil:=⟨Ra,hG_.2.trans qa⟩
 have hxA:=hx_.wr qa hgz
 have hSA:=HSG.out _ c0 GA
 refine hK_.out _ _ (Or.inr hSA) ?_
 clear hK_ K_ hG_ hx_ Ra qa
 refine' wpX_phaseB' (f:=3) (i:=3) (L:=(fun b_=>#[true,true,true,false,true,false,false,b_,false])) (L':=(fun b_=>#[true,true,true,true,true,false,false,b_,false])) (base:=w1.heap.size) (G:=(fun w'=>Rd W0 w' g s0∧Wrote w1 w' g Nil Nil)) (b:=b_) (x:=x_) al1 ?an3v ?al3v ?aa3v ?ar3v ?ai3v ?ag3v ?ae13v ?ae33v ?ap13v (fun w' q=>HSG.out _ w' q) (fun w' o q=>⟨q.1.alloc o,q.2.alloc o⟩) (fun w' q=>q.2.size) ?aw3v hxA ?am3v;(case an3v=>rfl);(case al3v=>rfl);(case aa3v=>rfl);(case ar3v=>kernel_rfl);(case ai3v=>rfl);(case ag3v=>rfl);(case ae13v=>rfl);(case ae33v=>(intros;rfl));(case ap13v=>(intros;rfl))
 (case aw3v=>exact GA)
 clear hxA hSA GA
 intro b_ x_ wp1 hG_ hx_ K_ hK_;(try simp only [Act.put,List.setIfInBounds_toArray,List.set_cons_zero,List.set_cons_succ,List.getElem_toArray,List.getElem_cons_zero,List.getElem_cons_succ])
 go_wp2_with fail
 refine (HC1.out _ hG_.1).mono ?_
 rintro e c1 ⟨rfl,Ra,qa⟩
 go_wp2_with fail
 have GA:Rd W0 c1 g s1∧Wrote w1 c1 g Nil Nil:=⟨Ra,hG_.2.trans qa⟩
 have hxA:=hx_.wr qa hgz
 have hSA:=HSG.out _ c1 GA
 refine hK_.out _ _ (Or.inr hSA) ?_
 clear hK_ K_ hG_ hx_ Ra qa
 refine' wpX_phaseB' (f:=2) (i:=5) (L:=(fun b_=>#[true,true,true,true,true,false,false,b_,false])) (L':=(fun b_=>#[true,true,true,true,true,true,false,b_,false])) (base:=w1.heap.size) (G:=(fun w'=>Rd W0 w' g s1∧Wrote w1 w' g Nil Nil)) (b:=b_) (x:=x_) al1 ?an5v ?al5v ?aa5v ?ar5v ?ai5v ?ag5v ?ae15v ?ae35v ?ap15v (fun w' q=>HSG.out _ w' q) (fun w' o q=>⟨q.1.alloc o,q.2.alloc o⟩) (fun w' q=>q.2.size) ?aw5v hxA ?am5v;(case an5v=>rfl);(case al5v=>rfl);(case aa5v=>rfl);(case ar5v=>kernel_rfl);(case ai5v=>rfl);(case ag5v=>rfl);(case ae15v=>rfl);(case ae35v=>(intros;rfl));(case ap15v=>(intros;rfl))
 (case aw5v=>exact GA)
 clear hxA hSA GA
 intro b_ x_ wp2 hG_ hx_ K_ hK_;(try simp only [Act.put,List.setIfInBounds_toArray,List.set_cons_zero,List.set_cons_succ,List.getElem_toArray,List.getElem_cons_zero,List.getElem_cons_succ])
 go_wp2_with fail
 refine (HC2.out _ hG_.1).mono ?_
 rintro e c2 ⟨rfl,Ra,qa⟩
 go_wp2_with fail
 have GA:Rd W0 c2 g s2∧Wrote w1 c2 g Nil Nil:=⟨Ra,hG_.2.trans qa⟩
 have hxA:=hx_.wr qa hgz
 have hSA:=HSG.out _ c2 GA
 refine hK_.out _ _ (Or.inr hSA) ?_
 clear hK_ K_ hG_ hx_ Ra qa
 refine' wpX_takeA' (f:=1) (i:=6) (v:=?xv6v) (L:=(fun b_=>#[true,true,true,true,true,true,false,b_,false])) (L':=(fun b_=>#[true,true,true,true,true,true,true,b_,false])) ?tan6v ?tal6v rfl (by kernel_rfl) ?tar6v (by kernel_rfl) ?tae36v (fun _ _ _ h=>h) (Or.inl ⟨by rfl,?xh6v⟩) ?taw6v ?xr6v;(case tan6v=>rfl);(case tal6v=>rfl);(case tar6v=>kernel_rfl);(case tae36v=>(intros;rfl));(case taw6v=>assumption);(case xh6v=>(intro w hSw;(try dsimp only at hSw);go_simp;(try with_reducible rfl)));(try simp only [Act.put,List.setIfInBounds_toArray,List.set_cons_zero,List.set_cons_succ,List.getElem_toArray,List.getElem_cons_zero,List.getElem_cons_succ])
 refine' wpX_layA' (f:=1) (L:=(fun b_=>#[true,true,true,true,true,true,true,b_,false])) (base:=w1.heap.size) (G:=(fun w'=>Rd W0 w' g s2∧Wrote w1 w' g Nil Nil)) (b:=b_) (x:=x_) al1 ?anLv ?alLv ?aaLv ?arLv ?ae1Lv ?ap1Lv (fun w' q=>HSG.out _ w' q) (fun w' o q=>⟨q.1.alloc o,q.2.alloc o⟩) (fun w' q=>q.2.size) ?awLv hxA ?amLv;(case anLv=>rfl);(case alLv=>rfl);(case aaLv=>rfl);(case arLv=>kernel_rfl);(case ae1Lv=>rfl);(case ap1Lv=>(intros;rfl))
 (case awLv=>exact GA)
 clear hxA hSA GA
 intro vb w7 G7 hv7 V7
 clear al1
 (try clear cV7 fV7);have cV7:=V7.cell;have fV7:=V7.frozen
 refine wpAnyX_oq 8 fun K hK=>?_
 obtain ⟨V8,gr8,sz8⟩:=whole_value (.int .i64 x0) (.string x1) (.int .i64 x2) (.slice none 0 0) (.slice none 0 0) (.slice none 0 0) V7
 have Br8:=grown_blk (Br.wr G7.2 hbg) gr8 (by omega)
 have R8:=G7.1.grew gr8 (fun k hk=>by injection hk with hk;omega)
 have Q8:=G7.2.grew gr8 (fun k hk=>by injection hk with hk;omega)
 go_wp2_with fail
 refine hK.out _ _ (Or.inr (Br8.cell 0)) (fun hS=>?_)
 clear hK K hS cV7 fV7
 refine wpAnyX_done (by kernel_rfl) ?_ _
 obtain ⟨w8,hw8⟩:∃ w8,w8=((((((w7.setCell ⟨vb,0,none⟩ (.int .i64 x0)).setCell ⟨vb,1,none⟩ (.string x1)).setCell ⟨vb,2,none⟩ (.int .i64 x2)).setCell ⟨vb,3,none⟩ (.slice none 0 0)).setCell ⟨vb,4,none⟩ (.slice none 0 0)).setCell ⟨vb,5,none⟩ (.slice none 0 0)):=⟨_,rfl⟩
 rw [←hw8] at V8 Br8 R8 Q8 ⊢
 have Rb8:=grown_blk (Rb0.wr G7.2 (by omega)) gr8 (by omega)
 rw [←hw8] at Rb8
 have Q8:=Q0.trans Q8
 clear hw8 gr8 sz8 V7 G7 Br0 Rb0 R0 Q0 Br HSG HC0 HC1 HC2 h
 have hv8:=V8.lt
 (try clear cBr8 fBr8);have cBr8:=Br8.cell;have fBr8:=Br8.frozen
 go_wp2_with fail
 refine (each_any pairR W0 g (JS W0 w8 g vb 82 (fun s=>#[.int .i64 x0,.string x1,.int .i64 x2,s,.slice none 0 0,.slice none 0 0]) 160 2 pairRows) (fun _ _ _ h=>h.1) (fun _ _ _ _ _ h R q=>h.wr R q (by have:=Q8.size;omega) (by omega)) 228 #[.pointer (some ⟨vb,0,none⟩),.pointer (some ⟨w.heap.size,0,none⟩)] (run_enter Tryz.func228 (by kernel_rfl) (by kernel_rfl))
  (fun w_ st acc hl h=>value1_any W0 w8 g w.heap.size vb x0 x2 x1 Br8 hbg (by omega) (by omega) (by have:=Q8.size;omega) (by omega) (by have:=Q8.size;omega) hv8 w_ st acc hl h) s2 w8 ⟨R8,Keep2.refl _ _ _,none,0,0,V8,Own.nil⟩).mono ?_
 rintro e w9 ⟨rfl,R9,K9,A1,n1,c1,V9,O9⟩
 rw [HX3.out] at R9 O9
 simp only at R9 O9
 have V9:Blk w9 vb 82 #[.int .i64 x0,.string x1,.int .i64 x2,.slice A1 n1 c1,.slice none 0 0,.slice none 0 0]:=V9
 have P9:PaSl w9 A1 n1 c1 ps:=⟨O9.sl',own_tp O9⟩
 have Br9:=K9.blk Br8 hbg (by omega)
 have Rb9:=K9.blk Rb8 (by omega) (by omega)
 have Q9:=K9.wrote Q8 (by omega)
 clear K9 O9 V8 Br8 Rb8 Q8 R8 cBr8 fBr8
 (try clear cBr9 fBr9);have cBr9:=Br9.cell;have fBr9:=Br9.frozen
 go_wp2_with fail
 refine (rtexts_any W0 g s3 w9 R9).mono ?_
 rintro e wa ⟨A2,n2,c2,rfl,Ta,Ra,qa⟩
 rw [HX4.out] at Ta Ra
 simp only at Ta Ra
 have Pa:=P9.fr (Fr.wr R9 qa)
 have Va:=V9.wr qa (by omega)
 have Bra:=Br9.wr qa (by omega)
 have Rba:=Rb9.wr qa (by omega)
 have Qa:=Q9.trans qa
 clear V9 P9 Br9 Rb9 Q9 R9 qa cBr9 fBr9
 (try clear cVa fVa);have cVa:=Va.cell;have fVa:=Va.frozen
 go_upto_region 4 with fail
 have gr:=grown_setRow_cell wa vb 4 (.slice A2 n2 c2)
 have Vc:=Va.set' (i:=4) (u:=.slice A2 n2 c2) rfl
 have Pc:=Pa.fr (Fr.grown Va gr)
 have Tc:=Ta.fr (Fr.grown Va gr)
 have Brc:=grown_blk Bra gr (by omega)
 have Rbc:=grown_blk Rba gr (by omega)
 have Rc:=Ra.grew gr (fun k hk=>by injection hk with hk;omega)
 have Qc:=Qa.grew gr (fun k hk=>by injection hk with hk;omega)
 obtain ⟨wc,hwc⟩:∃ wc,wc=wa.setCell ⟨vb,4,none⟩ (.slice A2 n2 c2):=⟨_,rfl⟩
 rw [←hwc] at Vc Pc Tc Brc Rbc Rc Qc ⊢
 clear hwc gr Va Pa Ta Bra Rba Ra Qa cVa fVa
 have hvc:=Vc.lt
 (try clear cBrc fBrc);have cBrc:=Brc.cell;have fBrc:=Brc.frozen
 go_wp2_with fail
 refine (each_any scoreR W0 g (JS W0 wc g vb 82 (fun s=>#[.int .i64 x0,.string x1,.int .i64 x2,.slice A1 n1 c1,.slice A2 n2 c2,s]) 163 2 scoreRows) (fun _ _ _ h=>h.1) (fun _ _ _ _ _ h R q=>h.wr R q (by have:=Qc.size;omega) (by omega)) 229 #[.pointer (some ⟨vb,0,none⟩),.pointer (some ⟨w.heap.size,0,none⟩)] (run_enter Tryz.func229 (by kernel_rfl) (by kernel_rfl))
  (fun w_ st acc hl h=>value2_any W0 wc g w.heap.size vb x0 x2 x1 (.slice A1 n1 c1) (.slice A2 n2 c2) Brc hbg (by omega) (by omega) (by have:=Qc.size;omega) (by omega) (by have:=Qc.size;omega) hvc w_ st acc hl h) s4 wc ⟨Rc,Keep2.refl _ _ _,none,0,0,Vc,Own.nil⟩).mono ?_
 rintro e wd ⟨rfl,Rd_,Kd,A3,n3,c3,Vd,Od⟩
 rw [HX5.out] at Rd_ Od
 simp only at Rd_ Od
 have Vd:Blk wd vb 82 #[.int .i64 x0,.string x1,.int .i64 x2,.slice A1 n1 c1,.slice A2 n2 c2,.slice A3 n3 c3]:=Vd
 have fd:=Kd.fr Rc Vc
 have Pd:=Pc.fr fd
 have Td:=Tc.fr fd
 have Rbd:=Kd.blk Rbc (by omega) (by omega)
 have Qd:=Kd.wrote Qc (by omega)
 have Nd:VSl wd ⟨x0,x1,x2,ps,is_,ss⟩ A1 n1 c1 A2 n2 c2 A3 n3 c3:=⟨Pd.sl,Td.sl,Od.sl'⟩
 have Tpd:Tps wd A1 A2 A3:=⟨Pd.tp,Td.tp,own_tp Od⟩
 clear Kd fd Pd Td Od Pc Tc Brc Rbc Rc Qc Vc cBrc fBrc
 obtain ⟨Ve,gre,sze⟩:=whole_value (.int .i64 x0) (.string x1) (.int .i64 x2) (.slice A1 n1 c1) (.slice A2 n2 c2) (.slice A3 n3 c3) Rbd
 have fe:=Fr.grown Rbd gre
 have HP:=hide (And.intro (Nd.fr Tpd fe) (And.intro (Tpd.fr fe) (And.intro (Rd_.grew gre (fun k hk=>by injection hk with hk;omega)) (Qd.grew gre (fun k hk=>by injection hk with hk;omega)))))
 have cVe:=hide Ve.cell
 have hvd:=Vd.lt
 have hrd:=Rbd.lt
 clear Ve gre sze fe Nd Tpd Rd_ Qd
 (try clear cVd fVd);have cVd:=Vd.cell;have fVd:=Vd.frozen;(try clear cRbd fRbd);have cRbd:=Rbd.cell;have fRbd:=Rbd.frozen
 go_wp2_with fail
 have cVe:=cVe.out
 refine bodyPost_ret (v:=.agg #[.int .i64 x0,.string x1,.int .i64 x2,.slice A1 n1 c1,.slice A2 n2 c2,.slice A3 n3 c3]) ?_ rfl ⟨A1,n1,c1,A2,n2,c2,A3,n3,c3,rfl,HP.out⟩
 simp [results,Tryz.results206,go_sem,cVe]
end Go.Proofs.YtgdcofbnbiclmaaGreatDoor


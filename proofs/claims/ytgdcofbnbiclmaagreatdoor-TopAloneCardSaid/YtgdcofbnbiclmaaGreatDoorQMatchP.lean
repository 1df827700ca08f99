import Derived.Test.YtgdcofbnbiclmaaGreatDoorQLed
import Derived.Test.YtgdcofbnbiclmaaGreatDoorQCall
namespace Go.Proofs.YtgdcofbnbiclmaaGreatDoor
set_option linter.all false
set_option maxHeartbeats 32000000
open Go.RowKit
def freshAt:List Itm→List Itm→Option Nat
 | _,[]=>none
 | [],_ :: _=>some 0
 | x :: L,y :: ms=>if x.term=y.term then (freshAt L ms).map (· + 1) else some 0
structure MRes where
 log:Option (List Itm)
 fits:Bool
 fresh:Int
 err:Int
def tailOf (base bt:Int) (L:List Itm) (at_:Nat) (place:Int) (ms:List Itm):MRes:=
 match freshAt (L.drop at_) ms with
 | none=>⟨some L,true,0,0⟩
 | some i=>if checkLog base bt (L.take (at_+i) ++ ms.drop i)=0 then ⟨some (L.take (at_+i) ++ ms.drop i),true,place+i+1,0⟩ else ⟨none,false,0,6⟩
def matchOf (base bt:Int) (L:List Itm) (place of:Int) (ms:List Itm):MRes:=
 if checkLog place of ms≠0 then ⟨none,false,0,10⟩
 else if place<base then
  (if place+(min (base - place).toNat ms.length:Nat)<base then ⟨some L,true,0,0⟩
   else tailOf base bt L 0 (place+(min (base - place).toNat ms.length:Nat)) (ms.drop (min (base - place).toNat ms.length)))
 else if (termOf base bt L place).2≠0∨(termOf base bt L place).1≠of then ⟨some L,false,0,0⟩
 else tailOf base bt L (place - base).toNat place ms
structure GearD where
 kind:Int
 a:Int
 b:Int
 raw:RawD
structure ActD where
 kind:Int
 node:Int
 pick:Int
 client:Int
 seq:Int
 cmd:Cmd
def noCmd:Cmd:=⟨0,emp,emp,emp,0⟩
def hasNode (k:Int):Bool := !(k == 6 || k == 7 || k == 8 || k == 12)
def hasPick (k:Int):Bool:=k == 5 || k == 6 || k == 7 || k == 8 || k == 9
def checkAct (x:ActD):Int:=
 if x.kind<1∨12<x.kind then 3
 else if (hasNode x.kind=true∧(x.node<0∨3≤x.node))∨(hasPick x.kind=true∧(x.pick<0∨400000<x.pick)) then 2
 else if (hasNode x.kind=false∧x.node≠0)∨(hasPick x.kind=false∧x.pick≠0)∨(x.kind≠1∧¬ (x.client=0∧zeroCall x.seq x.cmd.kind x.cmd.key x.cmd.field x.cmd.text x.cmd.n=true)) then 8
 else if x.kind=1 then checkCall x.client x.seq x.cmd.kind x.cmd.key x.cmd.field x.cmd.text x.cmd.n else 0
def callOf (g:GearD):Int×Int×Cmd:=if picked g.b 4=0 then (0,0,noCmd) else (picked g.b 4,1+picked g.a 4,cmdR g.raw)
def bareAct (k node pick:Int):ActD:=⟨k,node,pick,0,0,noCmd⟩
def actOf (g:GearD):ActD:=
 let n:=picked g.a 3
 let k:=picked g.kind 20
 if k<3 then ⟨1,n,0,(callOf g).1,(callOf g).2.1,(callOf g).2.2⟩
 else if k<5 then bareAct 2 n 0
 else if k<8 then bareAct 3 n 0
 else if k<12 then bareAct 4 n 0
 else if k=12 then bareAct 6 0 (picked g.b 300)
 else if k=13 then bareAct 7 0 (picked g.b 300)
 else if k=14 then bareAct 8 0 (picked g.b 300)
 else if k=15 then bareAct 9 n (picked g.b 500)
 else if k=16 then bareAct 10 n 0
 else if k=17 then bareAct 11 n 0
 else if k=18 then bareAct 5 n (picked g.b 40)
 else bareAct 12 0 0
theorem noCmd_zero:zeroCall 0 noCmd.kind noCmd.key noCmd.field noCmd.text noCmd.n=true:=by decide +kernel
theorem bare_ok {k node pick:Int} (h1:2≤k) (h2:k≤12) (hn:(hasNode k=true∧0≤node∧node<3)∨(hasNode k=false∧node=0)) (hp:(hasPick k=true∧0≤pick∧pick≤400000)∨(hasPick k=false∧pick=0)):checkAct (bareAct k node pick)=0:=by
 unfold checkAct bareAct
 rw [if_neg (by simp only;omega)]
 rw [if_neg (by
  simp only
  rcases hn with ⟨a,b,c⟩|⟨a,b⟩ <;> rcases hp with ⟨d,e,f⟩|⟨d,e⟩ <;> simp [a,d] <;> omega)]
 rw [if_neg (by
  simp only [noCmd_zero]
  rcases hn with ⟨a,b,c⟩|⟨a,b⟩ <;> rcases hp with ⟨d,e,f⟩|⟨d,e⟩ <;> simp [a,d] <;> omega)]
 rw [if_neg (by simp only;omega)]
theorem act_ok (g:GearD):checkAct (actOf g)=0:=by
 have n0:=picked_lo g.a 3 (by omega);have n1:=picked_hi g.a 3 (by omega)
 have b0:=picked_lo g.b 300 (by omega);have b1:=picked_hi g.b 300 (by omega)
 have c0:=picked_lo g.b 500 (by omega);have c1:=picked_hi g.b 500 (by omega)
 have d0:=picked_lo g.b 40 (by omega);have d1:=picked_hi g.b 40 (by omega)
 have e0:=picked_lo g.b 4 (by omega);have e1:=picked_hi g.b 4 (by omega)
 have f0:=picked_lo g.a 4 (by omega);have f1:=picked_hi g.a 4 (by omega)
 unfold actOf
 simp only
 split
 ·unfold checkAct
  simp only
  rw [if_neg (by omega),if_neg (by simp [hasNode,hasPick];omega),if_neg (by simp [hasNode,hasPick]),if_pos trivial]
  unfold callOf
  split
  ·decide +kernel
  ·rename_i hk
   unfold checkCall
   rw [if_neg (by simpa using hk),if_neg (by simp [numberOk];omega)]
   exact cmd_ok _ _ _ _ _
 repeat' split
 all_goals refine bare_ok (by omega) (by omega) ?_ ?_ <;> simp [hasNode,hasPick] <;> omega
def ActD.cells (x:ActD):List Value:=[.int .i64 x.kind,.int .i64 x.node,.int .i64 x.pick,.int .i64 x.client,.int .i64 x.seq,.int .i64 x.cmd.kind,.string x.cmd.key,.string x.cmd.field,.string x.cmd.text,.int .i64 x.cmd.n]
def actRows (l:List ActD):List (List Value):=l.map ActD.cells
def actsOf (l:List GearD) (most:Nat):List ActD:=(l.take most).map actOf
theorem acts_ok (l:List GearD) (most:Nat):∀ x∈actsOf l most,checkAct x=0:=by
 intro x hx
 obtain ⟨g,_,rfl⟩:=List.mem_map.1 hx
 exact act_ok g
end Go.Proofs.YtgdcofbnbiclmaaGreatDoor


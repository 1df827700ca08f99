import Derived.WalkKit
import Derived.WalkSpells
import Derived.WalkLawsBesides
import Derived.Deep.Draws
import Derived.Deep.QuietTactic
import Derived.BigQuiet
import Derived.Laws.CopyRow
import Derived.Laws.AppendOwnNone
import Derived.Lib.AppendZerosOnto
import Derived.Lib.AppendZeros
import Derived.ArgAppend
import Derived.StillTailTactics
import Derived.Maps.AppendAt
import Derived.Lib.AppendStr
import Derived.Deep.RegionLaw
import Derived.Deep.RegionHeld3
import Derived.Lib.Bytealg
import Derived.Deep.DeepCutAuto
import Derived.Sort.Walk0
import Derived.Deep.CutBlock
import Derived.Lib.Overlaps
import Derived.Deep.DrawnRows
import Derived.ProofKit
import Derived.Laws.BytesString
import Derived.Laws.Bits64b
import Derived.Deep.MidRow
import Derived.LaidMore
import Derived.SevenTiedAt
import Derived.JoinedOf
import Derived.Test.YtgmojjclobkpjaaGreatDoorQBase
import Derived.Test.YtgmojjclobkpjaaGreatDoorQOwn
import Derived.Test.YtgmojjclobkpjaaGreatDoorQWire
import Derived.Test.YtgmojjclobkpjaaGreatDoorQHeldX
import Derived.Test.YtgmojjclobkpjaaGreatDoorQVal
import Derived.Test.YtgmojjclobkpjaaGreatDoorQCmd
import Derived.Test.YtgmojjclobkpjaaGreatDoorQFind2
import Derived.Test.YtgmojjclobkpjaaGreatDoorQCmp
import Derived.Test.YtgmojjclobkpjaaGreatDoorQCheck
import Derived.Test.YtgmojjclobkpjaaGreatDoorQIns
import Derived.Test.YtgmojjclobkpjaaGreatDoorQBin
import Derived.Test.YtgmojjclobkpjaaGreatDoorQCommand
import Derived.Test.YtgmojjclobkpjaaGreatDoorQHold
import Derived.Test.YtgmojjclobkpjaaGreatDoorQSet
import Derived.Test.YtgmojjclobkpjaaGreatDoorQList
import Derived.Test.YtgmojjclobkpjaaGreatDoorQDo
import Derived.Test.YtgmojjclobkpjaaGreatDoorQDonP
import Derived.Test.YtgmojjclobkpjaaGreatDoorQDone
import Derived.Test.YtgmojjclobkpjaaGreatDoorQEnt
import Derived.Test.YtgmojjclobkpjaaGreatDoorQEntD
import Derived.Test.YtgmojjclobkpjaaGreatDoorQStoC
import Derived.Test.YtgmojjclobkpjaaGreatDoorQStoK
import Derived.Test.YtgmojjclobkpjaaGreatDoorQCall
import Derived.Test.YtgmojjclobkpjaaGreatDoorQValsP
import Derived.Test.YtgmojjclobkpjaaGreatDoorQStoP
import Derived.Test.YtgmojjclobkpjaaGreatDoorQCli
import Derived.Test.YtgmojjclobkpjaaGreatDoorQWireM
import Derived.Test.YtgmojjclobkpjaaGreatDoorQCliO
import Derived.Test.YtgmojjclobkpjaaGreatDoorQEncM
import Derived.Test.YtgmojjclobkpjaaGreatDoorQLed
import Derived.Test.YtgmojjclobkpjaaGreatDoorQDec
import Derived.Test.YtgmojjclobkpjaaGreatDoorQMacP
import Derived.Test.YtgmojjclobkpjaaGreatDoorQCliD
import Derived.Test.YtgmojjclobkpjaaGreatDoorQCliE
import Derived.Test.YtgmojjclobkpjaaGreatDoorQMachC
import Derived.Test.YtgmojjclobkpjaaGreatDoorQTapP
import Derived.Test.YtgmojjclobkpjaaGreatDoorQRest
import Derived.Test.YtgmojjclobkpjaaGreatDoorQTapN
import Derived.Test.YtgmojjclobkpjaaGreatDoorQReadM
import Derived.Test.YtgmojjclobkpjaaGreatDoorQDecM
import Derived.Test.YtgmojjclobkpjaaGreatDoorQTapB
import Derived.Test.YtgmojjclobkpjaaGreatDoorQHeldG
import Derived.Test.YtgmojjclobkpjaaGreatDoorQSame
import Derived.Test.YtgmojjclobkpjaaGreatDoorQLaidN
namespace Go.Proofs.YtgmojjclobkpjaaGreatDoor
set_option linter.all false
set_option maxHeartbeats 32000000
open Go.RowKit

section
variable {w w':World} {base:Nat} {e:TypeId} {size:Nat} {v:Value} {rows:List (List Value)}
theorem Own.setCell (h:Own w base e size v rows) {p:Addr} (hp:p.block<base) (u:Value):Own (w.setCell p u) base e size v rows:=
 h.keep fun k hk _=>Below.heap_setCell w p u k (by omega)
end


end Go.Proofs.YtgmojjclobkpjaaGreatDoor
namespace Go.Proofs.YtgmojjclobkpjaaGreatDoor
set_option linter.all false
set_option maxHeartbeats 32000000
open Go.RowKit
section
variable {P:Program} {T E:TypeId} {size:Nat} (ht:P.underlying T=some (.slice E)) (hs:(P.info? E).map (·.size)=some size)
include ht hs
end
end Go.Proofs.YtgmojjclobkpjaaGreatDoor

namespace Go.Proofs.YtgmojjclobkpjaaGreatDoor
set_option linter.all false
set_option maxHeartbeats 32000000
open Go.ChangeShapes Go.WideShapes Go.ChangeAt Go.RowKit


end Go.Proofs.YtgmojjclobkpjaaGreatDoor
namespace Go.Proofs.YtgmojjclobkpjaaGreatDoor
set_option linter.all false
set_option maxHeartbeats 32000000
open Go.ChangeShapes Go.WideShapes Go.ChangeAt Go.RowKit
section
variable {H:Type} {enc:TypeId×Value→H} {w:World} {base:Nat} {spare:Nat→Bool} {held:Bool} {v:Value} {d:DataW H} {p:List MemPlace}
set_option maxRecDepth 100000 in
theorem open_deeds {r:Reach} {b0:Nat} (hv:Value.okWide Tryz.prog w r b0 56 v) (h:DataW.Trod enc Tryz.prog w base spare held 56 v d p) :
  ∃ A n c,∃ l:List DeedD,v = .slice A n c∧(∀ x∈l,x.ok)∧Sl w 8 A n c (l.map DeedD.cells):=by
 obtain ⟨a0,len,cap,rfl⟩:=okWide_slice Tryz.underlying56 hv
 obtain ⟨fuel,hf⟩:=h
 obtain ⟨A,n,c,rows,he,h3,h4⟩:=seg_of_slice 3 Tryz.underlying56 deed_atoms (by kernel_rfl) (by decide) hf
 obtain ⟨l,rfl,hl⟩:=rows_map fits_deed rows h3
 exact ⟨A,n,c,l,he,hl,h4⟩
end
end Go.Proofs.YtgmojjclobkpjaaGreatDoor

namespace Go.Proofs.YtgmojjclobkpjaaGreatDoor
set_option linter.all false
set_option maxHeartbeats 32000000
open Go.RowKit
structure ItemAt (w:World) (b o:Nat) (x:Itm):Prop where
 c0:w.cell? ⟨b,o,none⟩=some (.int .i64 x.term)
 c1:w.cell? ⟨b,o+1,none⟩=some (.int .i64 x.time)
 c2:w.cell? ⟨b,o+2,none⟩=some (.bool x.nop)
 c3:w.cell? ⟨b,o+3,none⟩=some (.int .i64 x.client)
 c4:w.cell? ⟨b,o+4,none⟩=some (.int .i64 x.seq)
 c5:w.cell? ⟨b,o+5,none⟩=some (.int .i64 x.cmd.kind)
 c6:w.cell? ⟨b,o+6,none⟩=some (.string x.cmd.key)
 c7:w.cell? ⟨b,o+7,none⟩=some (.string x.cmd.field)
 c8:w.cell? ⟨b,o+8,none⟩=some (.string x.cmd.text)
 c9:w.cell? ⟨b,o+9,none⟩=some (.int .i64 x.cmd.n)
def itemRows (l:List Itm):List (List Value):=l.map Itm.cells
theorem Sl.item {w:World} {A:Option Addr} {n c:Nat} {l:List Itm} (h:Sl w 10 A n c (itemRows l)) {k:Nat} (hk:k<l.length) :
  ∃ b off,A=some ⟨b,off,none⟩∧b<w.heap.size∧ItemAt w b (off+k*10) l[k]:=by
 obtain ⟨b,off,e,hb,hc⟩:=h.seg.at_ (i:=k) (by simpa [itemRows] using hk)
 have hc':∀ j u,l[k].cells[j]?=some u→w.cell? ⟨b,off+k*10+j,none⟩=some u:=by
  intro j u hu
  rw [Nat.add_assoc]
  exact hc j u (by simpa [itemRows] using hu)
 exact ⟨b,off,e,hb,hc' 0 _ rfl,hc' 1 _ rfl,hc' 2 _ rfl,hc' 3 _ rfl,hc' 4 _ rfl,hc' 5 _ rfl,hc' 6 _ rfl,hc' 7 _ rfl,hc' 8 _ rfl,hc' 9 _ rfl⟩
theorem item_cells_one (x:Itm):∀ u∈x.cells,u.oneCell'=true:=by
 intro u hu
 simp only [Itm.cells,List.mem_cons,List.not_mem_nil,or_false] at hu
 rcases hu with rfl|rfl|rfl|rfl|rfl|rfl|rfl|rfl|rfl|rfl <;> rfl
theorem item_one:∀ (l:List Itm),∀ r∈itemRows l,∀ u∈r,u.oneCell'=true:=by
 intro l r hr u hu
 obtain ⟨x,_,rfl⟩:=List.mem_map.1 hr
 simp only [Itm.cells,List.mem_cons,List.not_mem_nil,or_false] at hu
 rcases hu with rfl|rfl|rfl|rfl|rfl|rfl|rfl|rfl|rfl|rfl <;> rfl
end Go.Proofs.YtgmojjclobkpjaaGreatDoor
namespace Go.Proofs.YtgmojjclobkpjaaGreatDoor
set_option linter.all false
set_option maxHeartbeats 32000000
open Go.RowKit
def chainOk:Int→Int→List Itm→Bool
 | _,_,[]=>true
 | t,m,x :: l=>checkItem x == 0 && !decide (x.term<t) && !decide (x.time<m) && chainOk x.term x.time l
def headBad (base bt:Int) (n:Nat):Bool:=
 decide (base<0) || decide (bt<0) || decide (1048576<bt) || ((base == 0) != (bt == 0)) || decide (200<(n:Int)) || decide (1048576 - (n:Int)<base)
def checkLog (base bt:Int) (l:List Itm):Int:=if headBad base bt l.length=true then 13 else if chainOk bt 0 l=true then 0 else 13
theorem chain_step {bt t m:Int} {l:List Itm} {k:Nat} (hk:k<l.length) (h:Hid (chainOk bt 0 l=chainOk t m (l.drop k))) :
  Hid (chainOk bt 0 l=(checkItem l[k] == 0 && !decide (l[k].term<t) && !decide (l[k].time<m) && chainOk l[k].term l[k].time (l.drop (k+1)))):=by
 have:=h.out
 rw [List.drop_eq_getElem_cons hk] at this
 exact this
theorem chain_rel {bt t m:Int} {l r:List Itm} {x:Itm} (h:Hid (chainOk bt 0 l=(checkItem x == 0 && !decide (x.term<t) && !decide (x.time<m) && chainOk x.term x.time r))) (h1:checkItem x=0) (h2:t≤x.term) (h3:m≤x.time) :
  Hid (chainOk bt 0 l=chainOk x.term x.time r):=by
 have h2:¬ x.term<t:=by omega
 have h3:¬ x.time<m:=by omega
 have:=h.out
 show chainOk bt 0 l=_
 simpa [h1,h2,h3] using this
theorem Check_any (base bt:Int) (A:Option Addr) (n c:Nat) (l:List Itm) (w:World) (hb1:I64 base) (hb2:I64 bt) (h:Sl w 10 A n c (itemRows l)) :
  Calls Tryz.prog 71 #[.agg #[.int .i64 base,.int .i64 bt,.slice A n c]] w fun e w'=>e = .returned (.int .i64 (checkLog base bt l))∧Below w.heap.size w w':=by
 obtain ⟨b1,b2⟩:=hb1
 obtain ⟨t1,t2⟩:=hb2
 have hn:n=l.length:=by have:=h.len;simp [itemRows] at this;omega
 subst hn
 have hlm:=h.nc
 have hlm':=h.cm
 unfold maxLen at hlm'
 by_cases hbad:headBad base bt l.length=true
 ·have HB:=hide hbad
  clear hbad
  go_enter Tryz.func71,Tryz.ntmps71
  go_wp2_with fail
  all_goals first
   | (exfalso;have:=HB.out;simp [headBad] at this;simp_all;omega)
   | (go_ret;refine ⟨ret_int ?_,below_by⟩;unfold checkLog;rw [if_pos HB.out])
 ·have hgood:headBad base bt l.length=false:=by simpa using hbad
  clear hbad
  have HB:=hide hgood
  simp only [headBad,Bool.or_eq_false_iff,decide_eq_false_iff_not,bne_eq_false_iff_eq] at hgood
  obtain ⟨⟨⟨⟨⟨g1,g2⟩,g3⟩,g4⟩,g5⟩,g6⟩:=hgood
  have g1:0≤base:=by omega
  have g2:0≤bt:=by omega
  have g3:bt≤1048576:=by omega
  have g5:(l.length:Int)≤200:=by omega
  have g6:base≤1048576 - (l.length:Int):=by omega
  have hcases:(base=0∧bt=0)∨((base == 0)=false∧(bt == 0)=false):=by
   by_cases h0:base=0
   ·subst h0;left;simp at g4;exact ⟨rfl,g4⟩
   ·right;have:(base == 0)=false:=by simpa using h0
    exact ⟨this,by rw [←g4,this]⟩
  clear g4
  rcases hcases with ⟨rfl,rfl⟩|⟨z1,z2⟩
  all_goals
   go_enter Tryz.func71,Tryz.ntmps71
   go_wp2_with fail
   go_loopw [3,4,49] (fun s3 s4 i wr=>∃ k:Nat,k≤l.length∧i = .int .i64 k∧∃ t m:Int,s3 = .int .i64 t∧s4 = .int .i64 m∧Hid (chainOk _ 0 l=chainOk t m (l.drop k))∧Below w.heap.size w wr)
    (fun _ _ i _=>l.length - (intOf i).toNat)
   case atStart=>exact ⟨0,by omega,rfl,_,_,rfl,rfl,rfl,below_by⟩
   case round=>
    obtain ⟨k,hk,rfl,t,m,rfl,rfl,HQ,hbr⟩:=hrel
    by_cases hlt:k<l.length
    ·obtain ⟨b,off,rfl,hbb,⟨i0,i1,i2,i3,i4,i5,i6,i7,i8,i9⟩⟩:=(h.below hbr).item hlt
     have HQ':=chain_step hlt HQ
     generalize l[k]=x at i0 i1 i2 i3 i4 i5 i6 i7 i8 i9 HQ'
     go_wp2_with (go_at_call 29;refine (CheckItem_any x _).mono ?_;rintro e w1 ⟨rfl,hb1⟩;obtain ⟨hc1,hf1⟩:=bcell hb1;have hz:=hb1.size;simp at hz)
     all_goals first
      | (go_ret;refine ⟨ret_int ?_,below_by⟩;unfold checkLog;rw [HB.out,HQ'.out];simp_all <;> omega)
      | (go_quiet (fail)
         go_wp2_with fail
         go_roundw
         case rel=>exact ⟨k+1,by omega,by go_num,_,_,rfl,rfl,chain_rel HQ' (by omega) (by omega) (by omega),below_by⟩
         case measure=>simp [intOf];omega)
    ·obtain rfl:k=l.length:=by omega
     go_wp2_with fail
     go_ret
     refine ⟨ret_int ?_,below_by⟩
     unfold checkLog
     rw [HB.out,HQ.out]
     simp [chainOk]
end Go.Proofs.YtgmojjclobkpjaaGreatDoor
namespace Go.Proofs.YtgmojjclobkpjaaGreatDoor
set_option linter.all false
set_option maxHeartbeats 32000000
open Go.RowKit
theorem log_good {base bt:Int} {l:List Itm} (h:checkLog base bt l=0):0≤base∧0≤bt∧bt≤1048576∧l.length≤200∧base+l.length≤1048576∧(base=0 ↔ bt=0)∧chainOk bt 0 l=true:=by
 unfold checkLog at h
 split at h
 ·cases h
 ·rename_i hb
  split at h
  ·rename_i hc
   have hb:headBad base bt l.length=false:=by simpa using hb
   simp only [headBad,Bool.or_eq_false_iff,decide_eq_false_iff_not,bne_eq_false_iff_eq] at hb
   obtain ⟨⟨⟨⟨⟨g1,g2⟩,g3⟩,g4⟩,g5⟩,g6⟩:=hb
   refine ⟨by omega,by omega,by omega,by omega,by omega,?_,hc⟩
   rw [Bool.eq_iff_iff] at g4
   simpa using g4
  ·cases h
theorem rows_len {w:World} {A:Option Addr} {n c:Nat} {l:List Itm} (h:Sl w 10 A n c (itemRows l)):l.length=n:=by have:=h.len;simpa [itemRows] using this
def lastOf (base bt:Int) (l:List Itm):Int×Int:=match l.getLast? with|some x=>(base+l.length,x.term)|none=>(base,bt)
theorem lastOf_nil (base bt:Int):lastOf base bt []=(base,bt):=rfl
theorem lastOf_pos {base bt:Int} {l:List Itm} (h:0<l.length):lastOf base bt l=(base+l.length,(l[l.length - 1]'(by omega)).term):=by
 unfold lastOf
 rw [List.getLast?_eq_getElem?,List.getElem?_eq_getElem (by omega)]
theorem last_any (base bt:Int) (A:Option Addr) (n c:Nat) (l:List Itm) (w:World) (hb1:0≤base) (hb2:base≤1048576) (hl:l.length≤200) (h:Sl w 10 A n c (itemRows l)) :
  Calls Tryz.prog 101 #[.agg #[.int .i64 base,.int .i64 bt,.slice A n c]] w fun e w'=>e = .returned (.tuple #[.int .i64 (lastOf base bt l).1,.int .i64 (lastOf base bt l).2])∧Below w.heap.size w w':=by
 have hn:=rows_len h
 subst hn
 have hlm:=h.nc
 by_cases h0:l=[]
 ·subst h0
  rw [lastOf_nil]
  go_enter Tryz.func101,Tryz.ntmps101
  go_wp2_with fail
  go_quiet (fail)
  go_wp2_with fail
  go_ret2
  exact ⟨rfl,below_by⟩
 ·have hp:0<l.length:=List.length_pos_iff.2 h0
  obtain ⟨b,off,rfl,hbb,⟨i0,_,_,_,_,_,_,_,_,_⟩⟩:=h.item (k:=l.length - 1) (by omega)
  rw [lastOf_pos hp]
  generalize l[l.length - 1]'(by omega)=x at i0
  have hp':(0:Int)<(l.length:Int):=by omega
  have i0':=(World.cell?_alloc_lt w (.cells #[.int .i64 base,.int .i64 bt,.slice (some ⟨b,off,none⟩) l.length c] 65) ⟨b,off+(l.length - 1)*10,none⟩ hbb).trans i0
  go_enter Tryz.func101,Tryz.ntmps101
  go_wp2_with fail
  go_quiet (fail)
  go_wp2_with fail
  go_ret2
  exact ⟨rfl,below_by⟩
def termOf (base bt:Int) (l:List Itm) (place:Int):Int×Int:=
 if place<base then (0,11) else if place=base then (bt,0) else if (l.length:Int)<place - base then (0,5)
 else (match l[(place - base - 1).toNat]? with|some x=>x.term|none=>0,0)
theorem termOf_lt {base bt:Int} {l:List Itm} {place:Int} (h:place<base):termOf base bt l place=(0,11):=by unfold termOf;rw [if_pos h]
theorem termOf_eq {base bt:Int} {l:List Itm}:termOf base bt l base=(bt,0):=by unfold termOf;rw [if_neg (by omega),if_pos rfl]
theorem termOf_gt {base bt:Int} {l:List Itm} {place:Int} (h:base<place) (h2:(l.length:Int)<place - base):termOf base bt l place=(0,5):=by
 unfold termOf;rw [if_neg (by omega),if_neg (by omega),if_pos h2]
theorem termOf_at {base bt:Int} {l:List Itm} {k:Nat} (hk:k<l.length):termOf base bt l (base+1+k)=(l[k].term,0):=by
 unfold termOf
 rw [if_neg (by omega),if_neg (by omega),if_neg (by omega),show (base+1+(k:Int) - base - 1).toNat=k by omega,List.getElem?_eq_getElem hk]
theorem term_any (base bt:Int) (A:Option Addr) (n c:Nat) (l:List Itm) (place:Int) (w:World) (hb1:0≤base) (hb2:base≤1048576) (hl:l.length≤200) (hp:I64 place) (h:Sl w 10 A n c (itemRows l)) :
  Calls Tryz.prog 102 #[.agg #[.int .i64 base,.int .i64 bt,.slice A n c],.int .i64 place] w fun e w'=>e = .returned (.tuple #[.int .i64 (termOf base bt l place).1,.int .i64 (termOf base bt l place).2])∧Below w.heap.size w w':=by
 have hn:=rows_len h
 subst hn
 have hlm:=h.nc
 obtain ⟨hp1,hp2⟩:=hp
 by_cases h1:place<base
 ·rw [termOf_lt h1]
  go_enter Tryz.func102,Tryz.ntmps102
  go_wp2_with fail
  go_ret2
  exact ⟨rfl,below_by⟩
 by_cases h2:place=base
 ·subst h2
  rw [termOf_eq]
  go_enter Tryz.func102,Tryz.ntmps102
  go_wp2_with fail
  go_ret2
  exact ⟨rfl,below_by⟩
 have h2':(place == base)=false:=by simpa using h2
 by_cases h3:(l.length:Int)<place - base
 ·rw [termOf_gt (by omega) h3]
  go_enter Tryz.func102,Tryz.ntmps102
  go_wp2_with fail
  go_ret2
  exact ⟨rfl,below_by⟩
 ·obtain ⟨k,rfl⟩:∃ k:Nat,place=base+1+k:=⟨(place - base - 1).toNat,by omega⟩
  have hk:k<l.length:=by omega
  obtain ⟨b,off,rfl,hbb,⟨i0,_,_,_,_,_,_,_,_,_⟩⟩:=h.item hk
  rw [termOf_at hk]
  generalize l[k]=x at i0
  have i0':=(World.cell?_alloc_lt w (.cells #[.int .i64 base,.int .i64 bt,.slice (some ⟨b,off,none⟩) l.length c] 65) ⟨b,off+k*10,none⟩ hbb).trans i0
  have e1:base+1+(k:Int) - base=k+1:=by omega
  go_enter Tryz.func102,Tryz.ntmps102
  go_wp2_with fail
  go_ret2
  exact ⟨rfl,below_by⟩
theorem Last_any (base bt:Int) (A:Option Addr) (n c:Nat) (l:List Itm) (w:World) (hb1:I64 base) (hb2:I64 bt) (h:Sl w 10 A n c (itemRows l)) (hg:checkLog base bt l=0) :
  Calls Tryz.prog 70 #[.agg #[.int .i64 base,.int .i64 bt,.slice A n c]] w fun e w'=>e = .returned (.tuple #[.int .i64 (lastOf base bt l).1,.int .i64 (lastOf base bt l).2,.int .i64 0])∧Below w.heap.size w w':=by
 have hgg:=log_good hg
 go_enter Tryz.func70,Tryz.ntmps70
 go_wp2_with fail
 refine (Check_any _ _ _ _ _ l _ hb1 hb2 (h.alloc _)).mono ?_
 rintro e w1 ⟨rfl,hb1⟩
 obtain ⟨hc1,hf1⟩:=bcell hb1
 have hz:=hb1.size
 simp at hz
 go_wp2_with fail
 refine (last_any _ _ _ _ _ l _ hgg.1 (by omega) hgg.2.2.2.1 ((h.alloc _).below hb1)).mono ?_
 rintro e w2 ⟨rfl,hb2⟩
 go_wp2_with fail
 go_ret3
 exact ⟨rfl,below_by⟩
def termE (base bt:Int) (l:List Itm) (place:Int):Int×Int:=if place<0∨1048576<place then (0,2) else termOf base bt l place
theorem Term_any (base bt:Int) (A:Option Addr) (n c:Nat) (l:List Itm) (place:Int) (w:World) (hb1:I64 base) (hb2:I64 bt) (hp:I64 place) (h:Sl w 10 A n c (itemRows l)) (hg:checkLog base bt l=0) :
  Calls Tryz.prog 72 #[.agg #[.int .i64 base,.int .i64 bt,.slice A n c],.int .i64 place] w fun e w'=>e = .returned (.tuple #[.int .i64 (termE base bt l place).1,.int .i64 (termE base bt l place).2])∧Below w.heap.size w w':=by
 have hgg:=log_good hg
 by_cases hpl:place<0∨1048576<place
 ·have hD:termE base bt l place=(0,2):=by unfold termE;rw [if_pos hpl]
  rw [hD]
  go_enter Tryz.func72,Tryz.ntmps72
  go_wp2_with fail
  refine (Check_any _ _ _ _ _ l _ hb1 hb2 (h.alloc _)).mono ?_
  rintro e w1 ⟨rfl,hb1⟩
  go_wp2_with fail
  all_goals go_ret2
  all_goals exact ⟨rfl,below_by⟩
 ·have hD:termE base bt l place=termOf base bt l place:=by unfold termE;rw [if_neg hpl]
  rw [hD]
  have hp1:0≤place:=by omega
  have hp2:place≤1048576:=by omega
  go_enter Tryz.func72,Tryz.ntmps72
  go_wp2_with fail
  refine (Check_any _ _ _ _ _ l _ hb1 hb2 (h.alloc _)).mono ?_
  rintro e w1 ⟨rfl,hb1⟩
  obtain ⟨hc1,hf1⟩:=bcell hb1
  have hz:=hb1.size
  simp at hz
  go_wp2_with fail
  refine (term_any _ _ _ _ _ l _ _ hgg.1 (by omega) hgg.2.2.2.1 hp ((h.alloc _).below hb1)).mono ?_
  rintro e w2 ⟨rfl,hb2⟩
  go_wp2_with fail
  go_ret2
  exact ⟨rfl,below_by⟩
end Go.Proofs.YtgmojjclobkpjaaGreatDoor
namespace Go.Proofs.YtgmojjclobkpjaaGreatDoor
set_option linter.all false
set_option maxHeartbeats 32000000
open Go.RowKit
theorem item_size:(Tryz.prog.info? 35).map (·.size)=some 10:=by kernel_rfl
theorem itemRows_drop (l:List Itm) (k:Nat):(itemRows l).drop k=itemRows (l.drop k):=by simp [itemRows]
theorem itemRows_take (l:List Itm) (k:Nat):(itemRows l).take k=itemRows (l.take k):=by simp [itemRows]
theorem termOf_in {base bt:Int} {l:List Itm} {k:Nat} (hk:k≤l.length):(termOf base bt l (base+k)).2=0:=by
 cases k with
 | zero=>rw [show base+((0:Nat):Int)=base by simp,termOf_eq]
 | succ k=>rw [show base+((k+1:Nat):Int)=base+1+k by omega,termOf_at (by omega)]
theorem Trim_ok (base bt:Int) (A:Option Addr) (n c:Nat) (l:List Itm) (k:Nat) (w:World) (hb1:I64 base) (hb2:I64 bt) (hS:Sl w 10 A n c (itemRows l)) (hg:checkLog base bt l=0)
  (hk:k≤l.length) :
  Calls Tryz.prog 73 #[.agg #[.int .i64 base,.int .i64 bt,.slice A n c],.int .i64 (base+k)] w fun e w'=>∃ v,e = .returned (.tuple #[.agg #[.int .i64 (base+k),.int .i64 (termOf base bt l (base+k)).1,v],.int .i64 0]) ∧
   Own w' w.heap.size 35 10 v (itemRows (l.drop k))∧Below w.heap.size w w':=by
 have hgg:=log_good hg
 have hn:=rows_len hS
 subst hn
 have hlm:=hS.nc
 have hT:=termOf_in (base:=base) (bt:=bt) hk
 generalize hT':termOf base bt l (base+k)=T at *
 obtain ⟨tt,te⟩:=T
 have hT1:=fun w (h:Sl w 10 A l.length c (itemRows l))=>term_any base bt A _ c l (base+k) w hgg.1 (by omega) hgg.2.2.2.1 ⟨by omega,by omega⟩ h
 rw [hT'] at hT1
 simp only at hT
 subst hT
 have HT:=hide hT1;clear hT1 hT'
 obtain ⟨g1,g2,g3,g4,g5,_,_⟩:=hgg
 have e1:base+(k:Int) - base=k:=by omega
 have s1:=run_cut Tryz.underlying57 item_size A l.length c k hk
 simp only
 go_enter Tryz.func73,Tryz.ntmps73
 go_wp2_with fail
 refine (Check_any _ _ _ _ _ l _ hb1 hb2 ((hS.alloc _).alloc _)).mono ?_
 rintro e w1 ⟨rfl,hb1⟩
 obtain ⟨hc1,hf1⟩:=bcell hb1
 have hz:=hb1.size
 simp at hz
 have hz1:w.heap.size<w1.heap.size:=by omega
 have hz1':w.heap.size+1<w1.heap.size:=by omega
 go_wp2_with fail
 refine (HT.out _ (((hS.alloc _).alloc _).below hb1)).mono ?_
 rintro e w2 ⟨rfl,hb2⟩
 obtain ⟨hc2,hf2⟩:=bcell hb2
 have hz2:=hb2.size
 have hz2':w.heap.size+1<w2.heap.size:=by omega
 have hz3:w.heap.size<w2.heap.size:=by omega
 go_wp2_with fail
 have hS2:=((((hS.alloc (.cells #[.int .i64 base,.int .i64 bt,.slice A l.length c] 65)).alloc (.cells #[.int .i64 0,.int .i64 0,.slice none 0 0] 65)).below hb1).below hb2).drop k hk c (Nat.le_refl _) hlm
 rw [itemRows_drop] at hS2
 refine (Clone_item _ _ _ _ _ hS2 (item_one _) (by omega)).mono ?_
 rintro e w3 ⟨v,rfl,hown,hb3⟩
 obtain ⟨hc3,hf3⟩:=bcell hb3
 have hz4:w.heap.size+1<w3.heap.size:=by have:=hb3.size;omega
 have hsl:=hown.sl
 obtain ⟨A',c',rfl,_⟩:=hsl
 go_wp2_with fail
 refine bodyPost_ret (v:=.tuple #[.agg #[.int .i64 (base+k),.int .i64 tt,.slice A' (itemRows (l.drop k)).length c'],.int .i64 0]) ?_ rfl ⟨_,rfl,?_,below_by⟩
 ·simp [results,Tryz.results73,go_sem, *]
 ·exact (((hown.setCell (by simpa using hz2') _).setCell (by simpa using hz2') _).setCell (by simpa using hz2') _).mono (by omega)
def Itm.eqb (x y:Itm):Bool:=
 x.term == y.term && x.time == y.time && x.nop == y.nop && x.client == y.client && x.seq == y.seq && x.cmd.kind == y.cmd.kind && x.cmd.key.toList == y.cmd.key.toList && x.cmd.field.toList == y.cmd.field.toList && x.cmd.text.toList == y.cmd.text.toList && x.cmd.n == y.cmd.n
theorem bytes_eq {a b:ByteArray}:(a.toList == b.toList)=true ↔ a=b:=by
 constructor
 ·intro h
  have h:=eq_of_beq h
  rw [ByteArray.toList_eq,ByteArray.toList_eq] at h
  obtain ⟨⟨a⟩⟩:=a
  obtain ⟨⟨b⟩⟩:=b
  simp only at h
  rw [h]
 ·rintro rfl;simp
theorem Itm.eqb_iff {x y:Itm}:x.eqb y=true ↔ x=y:=by
 obtain ⟨a,b,c,d,e,⟨f,g,h,i,j⟩⟩:=x
 obtain ⟨a',b',c',d',e',⟨f',g',h',i',j'⟩⟩:=y
 unfold Itm.eqb
 simp only [Bool.and_eq_true,bytes_eq,Itm.mk.injEq,Cmd.mk.injEq]
 simp only [beq_iff_eq,and_assoc]
instance:DecidableEq Itm:=fun x y=>if h:x.eqb y=true then isTrue (Itm.eqb_iff.1 h) else isFalse fun e=>h (Itm.eqb_iff.2 e)
theorem item_neq (x y:Itm) (w:World):(binOp .neq 35 (.agg #[.int .i64 x.term,.int .i64 x.time,.bool x.nop,.int .i64 x.client,.int .i64 x.seq,.int .i64 x.cmd.kind,.string x.cmd.key,.string x.cmd.field,.string x.cmd.text,.int .i64 x.cmd.n])
  (.agg #[.int .i64 y.term,.int .i64 y.time,.bool y.nop,.int .i64 y.client,.int .i64 y.seq,.int .i64 y.cmd.kind,.string y.cmd.key,.string y.cmd.field,.string y.cmd.text,.int .i64 y.cmd.n])).run Tryz.prog w = .ok (.bool (!x.eqb y)) w:=by
 by_cases h:x.eqb y=true
 ·obtain rfl:=Itm.eqb_iff.1 h
  rw [h];simp [go_sem]
 ·have h':x.eqb y=false:=by simpa using h
  rw [h'];simp [go_sem]
  intro e1 e2 e3 e4 e5 e6 e7 e8 e9 e10
  exact h (by simp [Itm.eqb,e1,e2,e3,e4,e5,e6,e7,e8,e9,e10])
theorem same_next {a b:List Itm} {k:Nat} (hk:k<a.length) (hk':k<b.length) (h:a[k]=b[k]) (HQ:Hid (∀ j,j<k→a[j]?=b[j]?)):Hid (∀ j,j<k+1→a[j]?=b[j]?):=by
 intro j hj
 rcases Nat.lt_succ_iff_lt_or_eq.1 hj with h1|rfl
 ·exact HQ.out j h1
 ·rw [List.getElem?_eq_getElem hk,List.getElem?_eq_getElem hk',h]
theorem same_not {a b:List Itm} {k:Nat} (hk:k<a.length) (hk':k<b.length) (h:¬ a[k]=b[k]):Hid (decide (a=b)=false):=by
 show decide (a=b)=false
 simp only [decide_eq_false_iff_not]
 rintro rfl
 exact h rfl
theorem same_all {a b:List Itm} (hl:a.length=b.length) (HQ:Hid (∀ j,j<a.length→a[j]?=b[j]?)):Hid (decide (a=b)=true):=by
 show decide (a=b)=true
 simp only [decide_eq_true_eq]
 refine List.ext_getElem? fun j=>?_
 by_cases hj:j<a.length
 ·exact HQ.out j hj
 ·rw [List.getElem?_eq_none (by omega),List.getElem?_eq_none (by omega)]
theorem sameItems_any (A B:Option Addr) (n m c d:Nat) (a b:List Itm) (w:World) (ha:Sl w 10 A n c (itemRows a)) (hb:Sl w 10 B m d (itemRows b)) :
  Calls Tryz.prog 22 #[.slice A n c,.slice B m d] w fun e w'=>e = .returned (.bool (decide (a=b)))∧Below w.heap.size w w':=by
 have hn:=rows_len ha
 have hm:=rows_len hb
 subst hn;subst hm
 have hlm:=ha.cm
 have hlm2:=ha.nc
 unfold maxLen at hlm
 by_cases hl:a.length=b.length
 ·have hl':((a.length:Int) == (b.length:Int))=true:=by simp [hl]
  go_enter Tryz.func22,Tryz.ntmps22
  go_wp2_with fail
  go_loopw [5] (fun i wr=>∃ k:Nat,k≤a.length∧i = .int .i64 k∧Hid (∀ j,j<k→a[j]?=b[j]?)∧Below w.heap.size w wr) (fun i _=>a.length - (intOf i).toNat)
  case atStart=>exact ⟨0,by omega,rfl,fun j hj=>by omega,below_by⟩
  case round=>
   obtain ⟨k,hk,rfl,HQ,hbr⟩:=hrel
   by_cases hlt:k<a.length
   ·obtain ⟨b1,o1,rfl,_,⟨i0,i1,i2,i3,i4,i5,i6,i7,i8,i9⟩⟩:=(ha.below hbr).item hlt
    obtain ⟨b2,o2,rfl,_,⟨j0,j1,j2,j3,j4,j5,j6,j7,j8,j9⟩⟩:=(hb.below hbr).item (k:=k) (by omega)
    have hne:=item_neq a[k] b[k]
    by_cases hxy:a[k]=b[k]
    ·have hx:a[k].eqb b[k]=true:=Itm.eqb_iff.2 hxy
     simp only [hx,Bool.not_true] at hne
     have HN:=same_next hlt (by omega) hxy HQ
     clear hxy hx
     generalize a[k]=x at i0 i1 i2 i3 i4 i5 i6 i7 i8 i9 hne
     generalize b[k]=y at j0 j1 j2 j3 j4 j5 j6 j7 j8 j9 hne
     go_wp2_with fail
     go_quiet (fail)
     go_wp2_with fail
     go_roundw
     case rel=>exact ⟨k+1,by omega,by go_num,HN,below_by⟩
     case measure=>simp [intOf];omega
    ·have hx:a[k].eqb b[k]=false:=by simpa using fun h=>hxy (Itm.eqb_iff.1 h)
     simp only [hx,Bool.not_false] at hne
     have HN:=same_not hlt (by omega) hxy
     clear hxy hx
     generalize a[k]=x at i0 i1 i2 i3 i4 i5 i6 i7 i8 i9 hne
     generalize b[k]=y at j0 j1 j2 j3 j4 j5 j6 j7 j8 j9 hne
     go_wp2_with fail
     go_quiet (fail)
     go_wp2_with fail
     go_ret
     exact ⟨ret_bool HN.out.symm,below_by⟩
   ·obtain rfl:k=a.length:=by omega
    have HN:=same_all hl HQ
    go_wp2_with fail
    go_ret
    exact ⟨ret_bool HN.out.symm,below_by⟩
 ·have hl':((a.length:Int) == (b.length:Int))=false:=by simp;omega
  have hl2:((a.length:Int) != (b.length:Int))=true:=by simp;omega
  have HN:Hid (decide (a=b)=false):=by
   show decide (a=b)=false
   simp only [decide_eq_false_iff_not]
   rintro rfl;exact hl rfl
  go_enter Tryz.func22,Tryz.ntmps22
  go_wp2_with fail
  go_ret
  exact ⟨ret_bool HN.out.symm,below_by⟩
end Go.Proofs.YtgmojjclobkpjaaGreatDoor
namespace Go.Proofs.YtgmojjclobkpjaaGreatDoor
set_option linter.all false
set_option maxHeartbeats 32000000
open Go.RowKit
def itemsGo:Int→Int→List DeedD→List Itm
 | _,_,[]=>[]
 | t,m,d :: l=>itemAt d (t+picked d.off 4 / 3) (m+picked d.wait 3) :: itemsGo (t+picked d.off 4 / 3) (m+picked d.wait 3) l
def itemsOf (l:List DeedD) (term:Int):List Itm:=itemsGo term 0 (l.take 30)
theorem items_step {t0 t m:Int} {l:List DeedD} {done:List Itm} {k:Nat} (hk:k<l.length) (h30:k<30) (h:Hid (itemsOf l t0=done ++ itemsGo t m ((l.take 30).drop k))) :
  Hid (itemsOf l t0=(done ++ [itemAt l[k] (t+picked l[k].off 4 / 3) (m+picked l[k].wait 3)]) ++ itemsGo (t+picked l[k].off 4 / 3) (m+picked l[k].wait 3) ((l.take 30).drop (k+1))):=by
 have hk':k<(l.take 30).length:=by rw [List.length_take];omega
 have:=h.out
 rw [List.drop_eq_getElem_cons hk',List.getElem_take] at this
 show itemsOf l t0=_
 rw [this,itemsGo]
 simp
theorem items_end {t0 t m:Int} {l:List DeedD} {done:List Itm} {k:Nat} (hk:¬ (k<l.length∧k<30)) (h:Hid (itemsOf l t0=done ++ itemsGo t m ((l.take 30).drop k))):itemsOf l t0=done:=by
 have:=h.out
 rw [List.drop_eq_nil_of_le (by rw [List.length_take];omega),itemsGo] at this
 simpa using this
theorem itemRows_snoc (l:List Itm) (x:Itm):itemRows (l ++ [x])=itemRows l ++ [x.cells]:=by simp [itemRows]
theorem itemRows_length (l:List Itm):(itemRows l).length=l.length:=by simp [itemRows]
set_option maxRecDepth 100000 in
theorem items_any (A:Option Addr) (n c:Nat) (l:List DeedD) (term:Int) (w:World) (hS:Sl w 8 A n c (deedRows l)) (hd:∀ d∈l,d.ok) (ht1:0≤term) (ht2:term≤1099511627776) :
  Calls Tryz.prog 18 #[.slice A n c,.int .i64 term] w fun e w'=>∃ v,e = .returned v∧Own w' w.heap.size 35 10 v (itemRows (itemsOf l term))∧Below w.heap.size w w':=by
 have hn:=deed_len hS
 subst hn
 have hlm:=hS.nc
 have hlm':=hS.cm
 unfold maxLen at hlm'
 have HD:=hide hd;clear hd
 go_enter Tryz.func18,Tryz.ntmps18
 go_wp2_with fail
 go_loopw [1,5,6,7] (fun s1 s5 s6 s7 wr=>∃ k:Nat,k≤l.length∧k≤30∧s7 = .int .i64 k∧∃ (t m:Int) (done:List Itm),s1 = .int .i64 t∧s6 = .int .i64 m∧Own wr w.heap.size 35 10 s5 (itemRows done) ∧
   Hid (itemsOf l term=done ++ itemsGo t m ((l.take 30).drop k))∧Hid (done.length=k)∧0≤t∧t≤1099511627776+k∧0≤m∧m≤2*k∧Below w.heap.size w wr)
  (fun _ _ _ s7 _=>l.length - (intOf s7).toNat)
 case atStart=>exact ⟨0,by omega,by omega,rfl,_,_,[],rfl,rfl,Own.nil,rfl,rfl,ht1,by omega,by omega,by omega,below_by⟩
 case round=>
  obtain ⟨k,hk,hk30,rfl,t,m,done,rfl,rfl,hown,HQ,HL,b1,b2,b3,b4,hbr⟩:=hrel
  have hbs:=hbr.size
  by_cases hlt:k<l.length∧k<30
  ·obtain ⟨hlt,hlt30⟩:=hlt
   obtain ⟨b,off,rfl,hbb,⟨i0,i1,i2,i3,i4,i5,i6,i7⟩⟩:=(hS.below hbr).deed hlt
   have HQ':=items_step hlt hlt30 HQ
   have hdk:(l[k]).ok:=HD.out _ (List.getElem_mem hlt)
   generalize l[k]=d at i0 i1 i2 i3 i4 i5 i6 i7 HQ' hdk
   have hI:=fun w=>Item_any d hdk 0 0 w ⟨by omega,by omega⟩ ⟨by omega,by omega⟩
   have hat:itemAt d (t+picked d.off 4 / 3) (m+picked d.wait 3)={ itemOf d 0 0 with term:=t+picked d.off 4 / 3,time:=m+picked d.wait 3 }:=rfl
   rw [hat] at HQ'
   clear hat
   generalize itemOf d 0 0=x at hI HQ'
   obtain ⟨xt,xm,xn,xc,xs,⟨ck,cy,cf,ct,cn⟩⟩:=x
   simp only [Itm.cells] at hI HQ'
   have HI:=hide hI;clear hI
   obtain ⟨⟨_,_⟩,⟨o1,o2⟩,⟨w1',w2'⟩,_⟩:=hdk
   have p1:=picked_lo d.off 4 (by omega)
   have p2:=picked_hi d.off 4 (by omega)
   have q1:=picked_lo d.wait 3 (by omega)
   have q2:=picked_hi d.wait 3 (by omega)
   go_wp2_with (first
    | (go_at_call 16;refine (picked_any _ _ _ (by omega) (by omega) (by omega) (by omega)).mono ?_;rintro e w' ⟨rfl,rfl⟩)
    | (go_at_call 38;refine (HI.out _).mono ?_;rintro e w1 ⟨rfl,hb1⟩;obtain ⟨hc1,hf1⟩:=bcell hb1;have hz1:=hb1.size;have hz2:b<w1.heap.size:=(by omega);have hown1:=hown.below hb1)
    | (at_builtin;refine wpList_push rfl _ _ _ rfl Tryz.underlying57 item_info rfl (by decide) (by rfl) (hown1.alloc _) (H:=w1.heap.size+1) (by simp) (by rfl) rfl (item_cells_one ⟨t+picked d.off 4 / 3,m+picked d.wait 3,xn,xc,xs,⟨ck,cy,cf,ct,cn⟩⟩) ?_ ?_ ?_ ?_))
   ·rw [itemRows_length,HL.out];unfold maxLen;omega
   ·rw [itemRows_length,HL.out];omega
   ·simp;omega
   ·intro v' w2 hown2 hb2 hz3
    have hown3:Own w2 w.heap.size 35 10 v' (itemRows (done ++ [⟨t+picked d.off 4 / 3,m+picked d.wait 3,xn,xc,xs,⟨ck,cy,cf,ct,cn⟩⟩])):=by rw [itemRows_snoc];exact hown2
    have HL':Hid ((done ++ [(⟨t+picked d.off 4 / 3,m+picked d.wait 3,xn,xc,xs,⟨ck,cy,cf,ct,cn⟩⟩:Itm)]).length=k+1):=by
     show _=_
     rw [List.length_append,HL.out];rfl
    go_wp2_with fail
    go_roundw
    case rel=>exact ⟨k+1,by omega,by omega,by go_num,_,_,_,rfl,rfl,hown3,HQ',HL',by omega,by omega,by omega,by omega,below_by⟩
    case measure=>simp [intOf];omega
  ·have HE:=hide (items_end hlt HQ)
   by_cases h1:k<l.length
   ·have h30:k=30:=by omega
    have h30':¬ ((k:Int)<30):=by omega
    clear h30
    go_wp2_with fail
    go_ret
    exact ⟨_,rfl,by rw [HE.out];exact hown,below_by⟩
   ·go_wp2_with fail
    go_ret
    exact ⟨_,rfl,by rw [HE.out];exact hown,below_by⟩
end Go.Proofs.YtgmojjclobkpjaaGreatDoor
namespace Go.Proofs.YtgmojjclobkpjaaGreatDoor
set_option linter.all false
set_option maxHeartbeats 32000000
open Go.RowKit
theorem chain_items:∀ (l:List DeedD) (bt tm t m:Int),bt≤t→tm≤m→1≤t→t+l.length≤1048576→0≤m→m+2*l.length≤1073741824→chainOk bt tm (itemsGo t m l)=true
 | [],_,_,_,_,_,_,_,_,_,_=>rfl
 | d :: l,bt,tm,t,m,h1,h2,h3,h4,h5,h6=>by
  have o1:=picked_lo d.off 4 (by omega)
  have o2:=picked_hi d.off 4 (by omega)
  have q1:=picked_lo d.wait 3 (by omega)
  have q2:=picked_hi d.wait 3 (by omega)
  simp only [List.length_cons] at h4 h6
  simp only [itemsGo,chainOk,Bool.and_eq_true,Bool.not_eq_true',decide_eq_false_iff_not,beq_iff_eq]
  have e1:(itemAt d (t+picked d.off 4 / 3) (m+picked d.wait 3)).term=t+picked d.off 4 / 3:=rfl
  have e2:(itemAt d (t+picked d.off 4 / 3) (m+picked d.wait 3)).time=m+picked d.wait 3:=rfl
  rw [e1,e2]
  refine ⟨⟨⟨check_itemAt d _ _ (by omega) (by omega) (by omega) (by omega),by omega⟩,by omega⟩,chain_items l _ _ _ _ (by omega) (by omega) (by omega) (by omega) (by omega) (by omega)⟩
theorem itemsGo_length:∀ (l:List DeedD) (t m:Int),(itemsGo t m l).length=l.length
 | [],_,_=>rfl
 | d :: l,t,m=>by simp [itemsGo,itemsGo_length l]
theorem itemsOf_length (l:List DeedD) (t:Int):(itemsOf l t).length=min l.length 30:=by
 unfold itemsOf;rw [itemsGo_length,List.length_take];omega
theorem checkLog_ok {b bt:Int} {l:List Itm} (h1:0≤b) (h2:0≤bt) (h3:bt≤1048576) (h4:b=0 ↔ bt=0) (h5:l.length≤200) (h6:b+l.length≤1048576) (h7:chainOk bt 0 l=true):checkLog b bt l=0:=by
 have e:((b == 0) != (bt == 0))=false:=by
  by_cases hb:b=0
  ·have:=h4.1 hb;simp [hb,this]
  ·have:¬ bt=0:=fun e=>hb (h4.2 e)
   have a1:(b == 0)=false:=by simpa using hb
   have a2:(bt == 0)=false:=by simpa using this
   rw [a1,a2];rfl
 have hb:headBad b bt l.length=false:=by
  simp only [headBad,e,Bool.or_eq_false_iff,decide_eq_false_iff_not]
  refine ⟨⟨⟨⟨⟨?_,?_⟩,?_⟩,trivial⟩,?_⟩,?_⟩ <;> omega
 unfold checkLog
 rw [hb,if_neg (by simp),if_pos h7]
end Go.Proofs.YtgmojjclobkpjaaGreatDoor
namespace Go.Proofs.YtgmojjclobkpjaaGreatDoor
set_option linter.all false
set_option maxHeartbeats 32000000
open Go.RowKit
theorem chain_head {t m:Int} {x:Itm} {l:List Itm} (h:chainOk t m (x :: l)=true):checkItem x=0∧t≤x.term∧m≤x.time∧chainOk x.term x.time l=true:=by
 simp only [chainOk,Bool.and_eq_true,beq_iff_eq,Bool.not_eq_true',decide_eq_false_iff_not] at h
 obtain ⟨⟨⟨h1,h2⟩,h3⟩,h4⟩:=h
 exact ⟨h1,by omega,by omega,h4⟩
theorem chain_weak {t m m':Int} {l:List Itm} (h:chainOk t m l=true) (hm:m'≤m):chainOk t m' l=true:=by
 cases l with
 | nil=>rfl
 | cons x l=>
  obtain ⟨h1,h2,h3,h4⟩:=chain_head h
  have a2:decide (x.term<t)=false:=by simp;omega
  have a3:decide (x.time<m')=false:=by simp;omega
  simp [chainOk,h1,a2,a3,h4]
theorem chain_drop:∀ (l:List Itm) (k:Nat) (t m:Int),chainOk t m l=true→0≤m→t≤1048576→k≤l.length →
  chainOk (if k=0 then t else match l[k - 1]? with|some x=>x.term|none=>t) 0 (l.drop k)=true ∧
  t≤(if k=0 then t else match l[k - 1]? with|some x=>x.term|none=>t)∧(if k=0 then t else match l[k - 1]? with|some x=>x.term|none=>t)≤1048576 ∧
  (0<k→1≤(if k=0 then t else match l[k - 1]? with|some x=>x.term|none=>t))
 | l,0,t,m,h,hm,ht,_=>⟨chain_weak h hm,by simp,by simpa using ht,by omega⟩
 | [],k+1,t,m,h,hm,ht,hk=>by simp at hk
 | x :: l,k+1,t,m,h,hm,ht,hk=>by
  have hk:k≤l.length:=by simpa using hk
  obtain ⟨h1,h2,h3,h4⟩:=chain_head h
  have hc:=checkItem_ok h1
  have ih:=chain_drop l k x.term x.time h4 (by omega) (by omega) hk
  cases k with
  | zero=>simp at ih ⊢;exact ⟨ih.1,h2,hc.2.1,hc.1⟩
  | succ k=>
   have hk:k<l.length:=hk
   simp [List.getElem?_eq_getElem hk] at ih ⊢
   exact ⟨ih.1,by omega,by omega,by omega⟩
theorem termOf_k {b bt:Int} {L:List Itm} {k:Nat} (hk:k≤L.length):(termOf b bt L (b+k)).1=(if k=0 then bt else match L[k - 1]? with|some x=>x.term|none=>bt):=by
 cases k with
 | zero=>simp [termOf_eq]
 | succ k=>
  rw [show b+((k+1:Nat):Int)=b+1+k by omega,termOf_at (by omega)]
  simp [List.getElem?_eq_getElem (show k<L.length by omega)]
theorem trim_good {b bt:Int} {L:List Itm} {k:Nat} (h:checkLog b bt L=0) (hk:k≤L.length) :
  checkLog (b+k) (termOf b bt L (b+k)).1 (L.drop k)=0∧0≤(termOf b bt L (b+k)).1∧(termOf b bt L (b+k)).1≤1048576∧lastOf (b+k) (termOf b bt L (b+k)).1 (L.drop k)=lastOf b bt L:=by
 obtain ⟨g1,g2,g3,g4,g5,g6,g7⟩:=log_good h
 obtain ⟨d1,d2,d3,d4⟩:=chain_drop L k bt 0 g7 (by omega) g3 hk
 rw [termOf_k hk]
 refine ⟨checkLog_ok (by omega) (by omega) d3 ?_ (by rw [List.length_drop];omega) (by rw [List.length_drop];omega) d1,by omega,d3,?_⟩
 ·cases k with
  | zero=>simpa using g6
  | succ k=>have:=d4 (by omega);constructor <;> intro <;> omega
 ·by_cases hd:L.length=k
  ·subst hd
   rw [List.drop_length,lastOf_nil]
   by_cases h0:L.length=0
   ·obtain rfl:L=[]:=List.length_eq_zero_iff.1 h0
    simp [lastOf_nil]
   ·rw [lastOf_pos (by omega),if_neg h0,List.getElem?_eq_getElem (by omega)]
  ·rw [lastOf_pos (l:=L.drop k) (by rw [List.length_drop];omega),lastOf_pos (l:=L) (by omega)]
   have e1:((L.drop k).length:Int)=L.length - k:=by rw [List.length_drop];omega
   rw [e1]
   congr 1
   ·omega
   ·simp only [List.getElem_drop,List.length_drop]
    congr 2;omega
theorem lastOf_place (b bt:Int) (L:List Itm):(lastOf b bt L).1=b+L.length:=by
 by_cases h:L=[]
 ·subst h;simp [lastOf_nil]
 ·have:0<L.length:=List.length_pos_iff.2 h
  rw [lastOf_pos this]
end Go.Proofs.YtgmojjclobkpjaaGreatDoor

namespace Go.Proofs.YtgmojjclobkpjaaGreatDoor
set_option linter.all false
set_option maxHeartbeats 32000000
open Go.RowKit
theorem own_grown {w w':World} {B g size:Nat} {t t':TypeId} {v:Value} {rows:List (List Value)} {cs:Array Value} (h:Own w B t size v rows) (R:Blk w g t' cs) (hg:w.grownBy w' (some g)) (hne:t'≠t):Own w' B t size v rows:=by
 refine ⟨⟨h.1.1,?_⟩,h.2⟩
 rcases h.1.2 with e|⟨b,cap,cur,e1,e2,e3,e4⟩
 ·exact .inl e
 ·exact .inr ⟨b,cap,cur,e1,e2,grown_blk (t:=t) e3 hg (blk_ne (t:=t) e3 R (Ne.symm hne)),e4⟩
def restL (b bt:Int) (L:List Itm) (si st:Int):List Itm:=if termE b bt L si=(st,0) then L.drop (si - b).toNat else []
theorem term_in {b bt si st:Int} {L:List Itm} (h0:0≤si) (h1:si≤1048576) (h:termE b bt L si=(st,0)):∃ k:Nat,k≤L.length∧si=b+k∧(termOf b bt L (b+k)).1=st:=by
 unfold termE at h
 rw [if_neg (by omega)] at h
 by_cases h2:si<b
 ·rw [termOf_lt h2] at h
  injection h with _ h
  omega
 ·by_cases h3:b<si∧(L.length:Int)<si - b
  ·rw [termOf_gt h3.1 h3.2] at h
   injection h with _ h
   omega
  ·obtain ⟨k,hk⟩:=Int.eq_ofNat_of_zero_le (show 0≤si - b by omega)
   have e:si=b+k:=by omega
   subst e
   exact ⟨k,by omega,rfl,by rw [h]⟩
theorem rest_good {b bt si st:Int} {L:List Itm} (hg:checkLog b bt L=0) (h0:1≤si) (h1:si≤1048576) (t0:1≤st) (t1:st≤1048576):checkLog si st (restL b bt L si st)=0:=by
 unfold restL
 by_cases h:termE b bt L si=(st,0)
 ·rw [if_pos h]
  obtain ⟨k,hk,rfl,rfl⟩:=term_in (by omega) (by omega) h
  rw [show (b+(k:Int) - b).toNat=k by omega]
  exact (trim_good hg hk).1
 ·rw [if_neg h]
  exact checkLog_ok (by omega) (by omega) (by omega) (by omega) (by simp) (by simp;omega) rfl
theorem whole_log {w2:World} {b:Nat} {x0 x1 x2:Value} (u0 u1 u2:Value) (R:Blk w2 b 65 #[x0,x1,x2]) :
  Blk (((w2.setCell ⟨b,0,none⟩ (u0)).setCell ⟨b,1,none⟩ (u1)).setCell ⟨b,2,none⟩ (u2)) b 65 #[u0,u1,u2]∧w2.grownBy (((w2.setCell ⟨b,0,none⟩ (u0)).setCell ⟨b,1,none⟩ (u1)).setCell ⟨b,2,none⟩ (u2)) (some b)∧(((w2.setCell ⟨b,0,none⟩ (u0)).setCell ⟨b,1,none⟩ (u1)).setCell ⟨b,2,none⟩ (u2)).heap.size=w2.heap.size:=by
 have R0:=R.set' (i:=0) (u:=u0) rfl
 have R1:=R0.set' (i:=1) (u:=u1) rfl
 have R2:=R1.set' (i:=2) (u:=u2) rfl
 exact ⟨R2,grown_trans (grown_trans (grown_setRow_cell w2 b 0 u0) (grown_setRow_cell _ b 1 u1)) (grown_setRow_cell _ b 2 u2),by simp⟩
set_option maxRecDepth 100000 in
theorem rest_any (b bt si st now next:Int) (A A1 B1:Option Addr) (n c n1 c1 k1 d1:Nat) (L:List Itm) (w:World) (hb1:I64 b) (hb2:I64 bt) (hs0:0≤si) (hs1:si≤1048576) (hS:Sl w 10 A n c (itemRows L)) (hg:checkLog b bt L=0) :
  Calls Tryz.prog 44 #[.agg #[.int .i64 b,.int .i64 bt,.slice A n c],.agg #[.int .i64 si,.int .i64 st,.int .i64 now,.slice A1 n1 c1,.int .i64 next,.slice B1 k1 d1]] w fun e w'=>∃ A' n' c',e = .returned (.agg #[.int .i64 si,.int .i64 st,.slice A' n' c'])∧(∃ B,Own w' B 35 10 (.slice A' n' c') (itemRows (restL b bt L si st)))∧Below w.heap.size w w':=by
 have hT:=fun w' (h:Below w.heap.size w w')=>Term_any b bt A n c L si w' hb1 hb2 ⟨by omega,by omega⟩ (hS.below h) hg
 have hK:termE b bt L si=(st,0)→∃ k:Nat,k≤L.length∧si=b+k∧(termOf b bt L (b+k)).1=st:=term_in hs0 hs1
 have hTr:=fun k w' (hk:k≤L.length) (h:Below w.heap.size w w')=>Trim_ok b bt A n c L k w' hb1 hb2 (hS.below h) hg hk
 obtain ⟨RL,hRL⟩:∃ RL,RL=restL b bt L si st:=⟨_,rfl⟩
 rw [←hRL]
 unfold restL at hRL
 generalize termE b bt L si=te at *
 obtain ⟨tt,te⟩:=te
 have HRL:=hide hRL
 clear hRL
 have HT:=hide hT;have HTR:=hide hTr;have HK:=hide hK
 clear hT hTr hK
 have T0:=(Blk.new w 65 #[.int .i64 b,.int .i64 bt,.slice A n c]).alloc (.cells #[.int .i64 si,.int .i64 st,.int .i64 now,.slice A1 n1 c1,.int .i64 next,.slice B1 k1 d1] 43)
 have T1:Blk ((w.alloc (.cells #[.int .i64 b,.int .i64 bt,.slice A n c] 65)).alloc (.cells #[.int .i64 si,.int .i64 st,.int .i64 now,.slice A1 n1 c1,.int .i64 next,.slice B1 k1 d1] 43)) (w.heap.size+1) 43 #[.int .i64 si,.int .i64 st,.int .i64 now,.slice A1 n1 c1,.int .i64 next,.slice B1 k1 d1]:=Blk.new' _ _ _ (by simp)
 replace T0:=T0.alloc (.cells #[.int .i64 0,.int .i64 0,.slice none 0 0] 65)
 replace T1:=T1.alloc (.cells #[.int .i64 0,.int .i64 0,.slice none 0 0] 65)
 have Z0:Blk (((w.alloc (.cells #[.int .i64 b,.int .i64 bt,.slice A n c] 65)).alloc (.cells #[.int .i64 si,.int .i64 st,.int .i64 now,.slice A1 n1 c1,.int .i64 next,.slice B1 k1 d1] 43)).alloc (.cells #[.int .i64 0,.int .i64 0,.slice none 0 0] 65)) (w.heap.size+1+1) 65 #[.int .i64 0,.int .i64 0,.slice none 0 0]:=Blk.new' _ _ _ (by simp)
 have q0:Below w.heap.size w (((w.alloc (.cells #[.int .i64 b,.int .i64 bt,.slice A n c] 65)).alloc (.cells #[.int .i64 si,.int .i64 st,.int .i64 now,.slice A1 n1 c1,.int .i64 next,.slice B1 k1 d1] 43)).alloc (.cells #[.int .i64 0,.int .i64 0,.slice none 0 0] 65)):=below_by
 go_enter Tryz.func44,Tryz.ntmps44
 (try clear cT0 fT0);have cT0:=T0.cell;have fT0:=T0.frozen;(try clear cT1 fT1);have cT1:=T1.cell;have fT1:=T1.frozen;(try clear cZ0 fZ0);have cZ0:=Z0.cell;have fZ0:=Z0.frozen
 go_wp2_with fail
 refine (HT.out _ q0).mono ?_
 rintro e w1 ⟨rfl,hb1⟩
 have hz:=hide (show w.heap.size≤w.heap.size+1+1 by omega)
 replace T0:=T0.bl hb1;replace T1:=T1.bl hb1;replace Z0:=Z0.bl hb1
 have q1:=bstep q0 hb1
 clear hb1 q0 cT0 fT0 cT1 fT1 cZ0 fZ0
 (try clear cT0 fT0);have cT0:=T0.cell;have fT0:=T0.frozen;(try clear cT1 fT1);have cT1:=T1.cell;have fT1:=T1.frozen;(try clear cZ0 fZ0);have cZ0:=Z0.cell;have fZ0:=Z0.frozen
 by_cases hte:te=0∧tt=st
 ·obtain ⟨rfl,rfl⟩:=hte
  obtain ⟨k,hk,rfl,hst⟩:=HK.out rfl
  have hrl:RL=L.drop k:=by rw [HRL.out,if_pos rfl,show (b+(k:Int) - b).toNat=k by omega]
  have hTR:=HTR.out k w1 hk q1
  rw [hst] at hTR
  have HTR:=hide hTR
  clear hTR hst
  go_wp2_with fail
  refine HTR.out.mono ?_
  rintro e w2 ⟨v,rfl,hown,hb2⟩
  rw [←hrl] at hown
  obtain ⟨A2,c2,rfl,-⟩:=hown.sl
  generalize (itemRows RL).length=n2 at *
  clear hrl HRL HK
  replace Z0:=Z0.bl hb2
  have q2:=bstep q1 hb2
  clear hb2 q1 cT0 fT0 cT1 fT1 cZ0 fZ0 HTR T0 T1
  have D2:=Blk.new w2 65 #[.int .i64 (b+k),.int .i64 tt,.slice A2 n2 c2]
  replace Z0:=Z0.al (.cells #[.int .i64 (b+k),.int .i64 tt,.slice A2 n2 c2] 65)
  replace hown:=hown.below ((Below.refl _ w2).alloc (Nat.le_refl _) (.cells #[.int .i64 (b+k),.int .i64 tt,.slice A2 n2 c2] 65))
  have q3:Below w.heap.size w (w2.alloc (.cells #[.int .i64 (b+k),.int .i64 tt,.slice A2 n2 c2] 65)):=below_by
  obtain ⟨Z9,gr9,sz9⟩:=whole_log (.int .i64 (b+k)) (.int .i64 tt) (.slice A2 n2 c2) Z0
  have HP:=hide (And.intro (own_grown hown Z0 gr9 (by decide)) (below_grow q3 gr9 q3.size hz.out))
  have cZ9:=hide Z9.cell
  clear Z9 gr9 sz9 q3 hown q2
  (try clear cD2 fD2);have cD2:=D2.cell;have fD2:=D2.frozen;(try clear cZ0 fZ0);have cZ0:=Z0.cell;have fZ0:=Z0.frozen
  go_wp2_with fail
  have cZ9:=cZ9.out
  refine bodyPost_ret (v:=.agg #[.int .i64 (b+k),.int .i64 tt,.slice A2 n2 c2]) ?_ rfl ⟨_,_,_,rfl,⟨_,HP.out.1⟩,HP.out.2⟩
  simp [results,Tryz.results44,go_sem,cZ9]
 ·have hne:(tt,te)≠(st,0):=fun h=>hte (by injection h with a b;exact ⟨b,a⟩)
  have hrl:RL=[]:=by rw [HRL.out,if_neg hne]
  subst hrl
  obtain ⟨Z9,gr9,sz9⟩:=whole_log (.int .i64 si) (.int .i64 st) (.slice none 0 0) Z0
  have HP:=hide (below_grow q1 gr9 q1.size hz.out)
  have cZ9:=hide Z9.cell
  clear Z9 gr9 sz9 q1 HTR HK hne
  by_cases h0:te=0
  ·subst h0
   have h1:(tt == st)=false:=by rw [beq_eq_false_iff_ne];exact fun h=>hte ⟨rfl,h⟩
   clear hte
   go_wp2_with fail
   have cZ9:=cZ9.out
   refine bodyPost_ret (v:=.agg #[.int .i64 si,.int .i64 st,.slice none 0 0]) ?_ rfl ⟨_,_,_,rfl,⟨0,Own.nil⟩,HP.out⟩
   simp [results,Tryz.results44,go_sem,cZ9]
  ·have h1:(te == 0)=false:=by rw [beq_eq_false_iff_ne];exact h0
   clear hte
   go_wp2_with fail
   have cZ9:=cZ9.out
   refine bodyPost_ret (v:=.agg #[.int .i64 si,.int .i64 st,.slice none 0 0]) ?_ rfl ⟨_,_,_,rfl,⟨0,Own.nil⟩,HP.out⟩
   simp [results,Tryz.results44,go_sem,cZ9]
end Go.Proofs.YtgmojjclobkpjaaGreatDoor

namespace Go.Proofs.YtgmojjclobkpjaaGreatDoor
set_option linter.all false
set_option maxHeartbeats 32000000
open Go.RowKit
theorem disk_size:(Tryz.prog.info? 67).map (·.size)=some 11:=by kernel_rfl
set_option maxRecDepth 100000 in
theorem TapeNew_any (w:World):Calls Tryz.prog 42 #[] w fun e w'=>e = .returned (.agg #[.int .i64 0,.int .i64 (-1),.int .i64 0,.int .i64 0,.int .i64 0,.slice none 0 0,.int .i64 1,.slice none 0 0,.int .i64 0,.int .i64 0,.slice none 0 0])∧Below w.heap.size w w':=by
 have R0:=Blk.new w 67 #[.int .i64 0,.int .i64 0,.int .i64 0,.int .i64 0,.int .i64 0,.slice none 0 0,.int .i64 0,.slice none 0 0,.int .i64 0,.int .i64 0,.slice none 0 0]
 have q0:Below w.heap.size w (w.alloc (.cells #[.int .i64 0,.int .i64 0,.int .i64 0,.int .i64 0,.int .i64 0,.slice none 0 0,.int .i64 0,.slice none 0 0,.int .i64 0,.int .i64 0,.slice none 0 0] 67)):=below_by
 go_enter Tryz.func42,Tryz.ntmps42
 go_wp2_with fail
 refine (New_any _).mono ?_
 rintro e w1 ⟨rfl,b1⟩
 replace R0:=R0.below' b1
 have q1:=bstep q0 b1
 go_wp2_with (refine wpList_store_blk rfl 67 _ _ rfl (cells:=#[.int .i64 0,.int .i64 (-1),.int .i64 0,.int .i64 0,.int .i64 0,.slice none 0 0,.int .i64 1,.slice none 0 0,.int .i64 0,.int .i64 0,.slice none 0 0]) rfl rfl R0 rfl disk_size (all_one rfl) ?_;intro w9 Z9 gr9 sz9)
 have q9:=below_grow q1 gr9 q1.size (Nat.le_refl _)
 clear gr9 sz9 R0
 go_wp2_with fail
 have hlv:(loadVar 67 ⟨w.heap.size,0,none⟩).run Tryz.prog w9 = .ok (.agg #[.int .i64 0,.int .i64 (-1),.int .i64 0,.int .i64 0,.int .i64 0,.slice none 0 0,.int .i64 1,.slice none 0 0,.int .i64 0,.int .i64 0,.slice none 0 0]) w9:=run_loadVar_row w9 _ _ _ _ (0,0) _ Z9 Tryz.underlying67 rfl disk_size
 refine bodyPost_ret (v:=.agg #[.int .i64 0,.int .i64 (-1),.int .i64 0,.int .i64 0,.int .i64 0,.slice none 0 0,.int .i64 1,.slice none 0 0,.int .i64 0,.int .i64 0,.slice none 0 0]) ?_ rfl ⟨rfl,q9⟩
 simp only [results,Tryz.results42]
 simp [asAddr,Act.put,hlv]
end Go.Proofs.YtgmojjclobkpjaaGreatDoor

namespace Go.Proofs.YtgmojjclobkpjaaGreatDoor
set_option linter.all false
set_option maxHeartbeats 32000000
open Go.RowKit
section
variable {P:Program} {w w':World}
theorem PendG.grew {b:Bool} {base:Nat} {t:TypeId} {z:Array Value} {val:Nat→Value} {x:Value} {r:Option Nat} (h:PendG b base t z val x w) (hg:w.grownBy w' r) (hne:∀ p,x=val p→Blk w p t z→r≠some p):PendG b base t z val x w':=fun hh=>by
 obtain ⟨p,h1,h2,h3⟩:=h hh
 exact ⟨p,h1,h2,(hg.block p h3.lt (fun e=>hne p h1 h3 e.symm)).trans h3⟩
end
end Go.Proofs.YtgmojjclobkpjaaGreatDoor

namespace Go.Proofs.YtgmojjclobkpjaaGreatDoor
set_option linter.all false
set_option maxHeartbeats 32000000
open Go.RowKit
structure Dk where
 term:Int
 who:Int
 si:Int
 st:Int
 m:Mach
 b:Int
 bt:Int
 L:List Itm
def newMach:Mach:=⟨0,[],1,[]⟩
def newDk:Dk:=⟨0,-1,0,0,newMach,0,0,[]⟩
def lineP (b bt:Int) (L:List Itm) (i:Int) (x:Itm):List Itm×Int:=
 if i≤b then (L,0) else if b+L.length+1<i then (L,10)
 else if checkLog b bt (L.take (i - b - 1).toNat ++ [x])=0 then (L.take (i - b - 1).toNat ++ [x],0) else (L,10)
def stepD (d:Dk):RK→Dk×Int
 | .mark t f=>({ d with term:=t,who:=f },0)
 | .line i x=>({ d with L:=(lineP d.b d.bt d.L i x).1 },(lineP d.b d.bt d.L i x).2)
 | .load i t m=>if d.si<i then ({ d with si:=i,st:=t,m:=m,b:=i,bt:=t,L:=restL d.b d.bt d.L i t },0) else (d,0)
def foldG:Dk→List RK→Dk×Int
 | d,[]=>(d,0)
 | d,r :: l=>if (stepD d r).2=0 then foldG (stepD d r).1 l else stepD d r
structure Dk.Ok (d:Dk):Prop where
 log:checkLog d.b d.bt d.L=0
 mach:MachOk d.m
 si0:0≤d.si
 si1:d.si≤1048576
theorem new_ok:newDk.Ok:=⟨rfl,mach_ok (by decide +kernel),by decide,by decide⟩
theorem lineP_ok {b bt i:Int} {L:List Itm} {x:Itm} (h:checkLog b bt L=0):checkLog b bt (lineP b bt L i x).1=0:=by
 unfold lineP
 split
 ·exact h
 split
 ·exact h
 split
 ·assumption
 ·exact h
theorem stepD_ok {d:Dk} {r:RK} (h:d.Ok) (hr:r.Ok):(stepD d r).1.Ok:=by
 cases r with
 | mark t f=>exact ⟨h.log,h.mach,h.si0,h.si1⟩
 | line i x=>exact ⟨lineP_ok h.log,h.mach,h.si0,h.si1⟩
 | load i t m=>
  obtain ⟨h1,h2,h3⟩:=hr
  have n1:=number_iff.1 h1
  have n2:=number_iff.1 h2
  simp only [stepD]
  split
  ·exact ⟨rest_good h.log n1.1 n1.2 n2.1 n2.2,h3,by show 0≤i;omega,by show i≤1048576;omega⟩
  ·exact h
theorem foldG_app:∀ (a b:List RK) (d:Dk),foldG d (a ++ b)=if (foldG d a).2=0 then foldG (foldG d a).1 b else foldG d a
 | [],b,d=>by simp [foldG]
 | r :: a,b,d=>by
  have e:∀ l,foldG d (r :: l)=if (stepD d r).2=0 then foldG (stepD d r).1 l else stepD d r:=fun l=>rfl
  rw [List.cons_append,e,e]
  by_cases h:(stepD d r).2=0
  ·rw [if_pos h,if_pos h,foldG_app a b _]
  ·rw [if_neg h,if_neg h,if_neg h]
theorem foldG_step {R:Dk×Int} {d:Dk} {l:List RK} {k:Nat} (hk:k<l.length) (h:Hid (R=foldG d (l.drop k))) :
  Hid (R=if (stepD d l[k]).2=0 then foldG (stepD d l[k]).1 (l.drop (k+1)) else stepD d l[k]):=by
 have:=h.out
 rw [List.drop_eq_getElem_cons hk] at this
 exact this
theorem foldG_end {R:Dk×Int} {d:Dk} {l:List RK} {k:Nat} (hk:l.length≤k) (h:Hid (R=foldG d (l.drop k))):R=(d,0):=by
 have:=h.out
 rw [List.drop_eq_nil_of_le hk] at this
 exact this
def linesFrom:Int→List Itm→List RK
 | _,[]=>[]
 | i,x :: l=>.line i x :: linesFrom (i+1) l
theorem linesFrom_len:∀ (l:List Itm) (i:Int),(linesFrom i l).length=l.length
 | [],_=>rfl
 | x :: l,i=>by simp [linesFrom,linesFrom_len l]
theorem linesFrom_at:∀ (l:List Itm) (i:Int) (k:Nat) (hk:k<l.length),(linesFrom i l)[k]?=some (.line (i+k) l[k])
 | x :: l,i,0,_=>by simp [linesFrom]
 | x :: l,i,k+1,hk=>by
  have:=linesFrom_at l (i+1) k (by simpa using hk)
  simp only [linesFrom,List.getElem?_cons_succ,this,List.getElem_cons_succ]
  congr 2;omega
theorem foldG_one (d:Dk) (r:RK):foldG d [r]=if (stepD d r).2=0 then ((stepD d r).1,0) else stepD d r:=rfl
theorem chainOk_app:∀ (l r:List Itm) (t m:Int),chainOk t m (l ++ r)=true→chainOk t m l=true
 | [],_,_,_,_=>rfl
 | x :: l,r,t,m,h=>by
  obtain ⟨h1,h2,h3,h4⟩:=chain_head (l:=l ++ r) h
  have a2:decide (x.term<t)=false:=by simp;omega
  have a3:decide (x.time<m)=false:=by simp;omega
  simp [chainOk,h1,a2,a3,chainOk_app l r _ _ h4]
theorem checkLog_app {b bt:Int} {l r:List Itm} (h:checkLog b bt (l ++ r)=0):checkLog b bt l=0:=by
 obtain ⟨g1,g2,g3,g4,g5,g6,g7⟩:=log_good h
 rw [List.length_append] at g4 g5
 exact checkLog_ok g1 g2 g3 g6 (by omega) (by omega) (chainOk_app l r _ _ g7)
theorem fold_lines:∀ (xs pre:List Itm) (d:Dk),d.b=0→d.bt=0→d.L=pre→checkLog 0 0 (pre ++ xs)=0→foldG d (linesFrom (pre.length+1) xs)=({ d with L:=pre ++ xs },0)
 | [],pre,d,hb,ht,hL,_=>by
  simp only [linesFrom,foldG,List.append_nil]
  rw [←hL]
 | x :: xs,pre,d,hb,ht,hL,hg=>by
  have hg1:checkLog 0 0 (pre ++ [x])=0:=by
   refine checkLog_app (r:=xs) ?_
   simpa using hg
  have hlp:lineP d.b d.bt d.L (pre.length+1) x=(pre ++ [x],0):=by
   rw [hb,ht,hL]
   unfold lineP
   rw [if_neg (by omega),if_neg (by omega),show ((pre.length:Int)+1 - 0 - 1).toNat=pre.length by omega,List.take_of_length_le (Nat.le_refl _),if_pos hg1]
  have ih:=fold_lines xs (pre ++ [x]) { d with L:=pre ++ [x] } hb ht rfl (by simpa using hg)
  rw [List.length_append,List.length_singleton] at ih
  simp only [linesFrom,foldG,stepD,hlp,if_pos]
  rw [show (pre.length:Int)+1+1=((pre.length+1:Nat):Int)+1 by omega,ih]
  simp
theorem fold_all {xs:List Itm} (h:checkLog 0 0 xs=0):foldG newDk (linesFrom 1 xs)=({ newDk with L:=xs },0):=by
 have:=fold_lines xs [] newDk rfl rfl rfl (by simpa using h)
 simpa using this
end Go.Proofs.YtgmojjclobkpjaaGreatDoor

namespace Go.Proofs.YtgmojjclobkpjaaGreatDoor
set_option linter.all false
set_option maxHeartbeats 32000000
open Go.RowKit
def OI (w:World) (A:Option Addr) (n c:Nat) (L:List Itm):Prop:=∃ B,Own w B 35 10 (.slice A n c) (itemRows L)
section
variable {w w':World} {A:Option Addr} {n c:Nat} {L:List Itm}
theorem OI.sl (h:OI w A n c L):Sl w 10 A n c (itemRows L):=by obtain ⟨B,h⟩:=h;exact h.sl'
theorem OI.bl (h:OI w A n c L) (hb:Below w.heap.size w w'):OI w' A n c L:=by obtain ⟨B,h⟩:=h;exact ⟨B,h.below hb⟩
theorem OI.grew (h:OI w A n c L) {g:Nat} {t:TypeId} {cs:Array Value} (R:Blk w g t cs) (hg:w.grownBy w' (some g)) (hne:t≠35:=by decide):OI w' A n c L:=by obtain ⟨B,h⟩:=h;exact ⟨B,own_grew h R hg hne⟩
theorem OI.len (h:OI w A n c L):L.length=n:=rows_len h.sl
end
theorem log_size:(Tryz.prog.info? 65).map (·.size)=some 3:=by kernel_rfl
def LinePost (b bt:Int) (r:List Itm×Int) (w:World) (e:Ending) (w':World):Prop:=
 ∃ A n c,e = .returned (.tuple #[.agg #[.int .i64 b,.int .i64 bt,.slice A n c],.int .i64 r.2])∧OI w' A n c r.1∧Below w.heap.size w w'
set_option maxRecDepth 100000 in
theorem line_any (b bt i:Int) (A:Option Addr) (n c:Nat) (L:List Itm) (x:Itm) (w:World) (hO:OI w A n c L) (hg:checkLog b bt L=0) (hi:I64 i) :
  Calls Tryz.prog 43 #[.agg #[.int .i64 b,.int .i64 bt,.slice A n c],.int .i64 i,.agg #[.int .i64 x.term,.int .i64 x.time,.bool x.nop,.int .i64 x.client,.int .i64 x.seq,.int .i64 x.cmd.kind,.string x.cmd.key,.string x.cmd.field,.string x.cmd.text,.int .i64 x.cmd.n]] w (LinePost b bt (lineP b bt L i x) w):=by
 obtain rfl:=hO.len
 have hgg:=log_good hg
 obtain ⟨g1,g2,g3,g4,g5,-,-⟩:=hgg
 have hb1:I64 b:=⟨by omega,by omega⟩
 have hb2:I64 bt:=⟨by omega,by omega⟩
 have i0:=hi.1;have i1:=hi.2
 have hS:=hO.sl
 have hnc:=hS.nc
 have hcm:=hS.cm
 have HL:=hide (fun w' (q:Below w.heap.size w w')=>Last_any b bt A L.length c L w' hb1 hb2 (hS.below q) hg)
 have hl1:(lastOf b bt L).1=b+L.length:=lastOf_place b bt L
 rw [hl1] at HL
 clear hl1
 generalize (lastOf b bt L).2=lt at *
 have wl:IntKind.i64.wrap (b+L.length+1)=b+L.length+1:=IntWalk.i64_in _ (by omega)
 have HLP:=hide (show lineP b bt L i x=if i≤b then (L,0) else if b+L.length+1<i then (L,10) else if checkLog b bt (L.take (i - b - 1).toNat ++ [x])=0 then (L.take (i - b - 1).toNat ++ [x],0) else (L,10) from rfl)
 generalize lineP b bt L i x=R at *
 have T0:=((Blk.new w 65 #[.int .i64 b,.int .i64 bt,.slice A L.length c]).alloc (.cells #[.int .i64 x.term,.int .i64 x.time,.bool x.nop,.int .i64 x.client,.int .i64 x.seq,.int .i64 x.cmd.kind,.string x.cmd.key,.string x.cmd.field,.string x.cmd.text,.int .i64 x.cmd.n] 35)).alloc (.cells #[.int .i64 0,.int .i64 0,.slice none 0 0] 65)
 have X0:Blk (((w.alloc (.cells #[.int .i64 b,.int .i64 bt,.slice A L.length c] 65)).alloc (.cells #[.int .i64 x.term,.int .i64 x.time,.bool x.nop,.int .i64 x.client,.int .i64 x.seq,.int .i64 x.cmd.kind,.string x.cmd.key,.string x.cmd.field,.string x.cmd.text,.int .i64 x.cmd.n] 35)).alloc (.cells #[.int .i64 0,.int .i64 0,.slice none 0 0] 65)) (w.heap.size+1) 35 #[.int .i64 x.term,.int .i64 x.time,.bool x.nop,.int .i64 x.client,.int .i64 x.seq,.int .i64 x.cmd.kind,.string x.cmd.key,.string x.cmd.field,.string x.cmd.text,.int .i64 x.cmd.n]:=(Blk.new' _ _ _ (by simp)).alloc _
 have R0:Blk (((w.alloc (.cells #[.int .i64 b,.int .i64 bt,.slice A L.length c] 65)).alloc (.cells #[.int .i64 x.term,.int .i64 x.time,.bool x.nop,.int .i64 x.client,.int .i64 x.seq,.int .i64 x.cmd.kind,.string x.cmd.key,.string x.cmd.field,.string x.cmd.text,.int .i64 x.cmd.n] 35)).alloc (.cells #[.int .i64 0,.int .i64 0,.slice none 0 0] 65)) (w.heap.size+1+1) 65 #[.int .i64 0,.int .i64 0,.slice none 0 0]:=Blk.new' _ _ _ (by simp)
 have q0:Below w.heap.size w (((w.alloc (.cells #[.int .i64 b,.int .i64 bt,.slice A L.length c] 65)).alloc (.cells #[.int .i64 x.term,.int .i64 x.time,.bool x.nop,.int .i64 x.client,.int .i64 x.seq,.int .i64 x.cmd.kind,.string x.cmd.key,.string x.cmd.field,.string x.cmd.text,.int .i64 x.cmd.n] 35)).alloc (.cells #[.int .i64 0,.int .i64 0,.slice none 0 0] 65)):=below_by
 have ret_old:∀ (w2:World) (k:Int),R=(L,k)→Blk w2 w.heap.size 65 #[.int .i64 b,.int .i64 bt,.slice A L.length c]→Blk w2 (w.heap.size+1+1) 65 #[.int .i64 0,.int .i64 0,.slice none 0 0]→Below w.heap.size w w2 →
   ∀ w9,Blk w9 (w.heap.size+1+1) 65 #[.int .i64 b,.int .i64 bt,.slice A L.length c]→w2.grownBy w9 (some (w.heap.size+1+1))→w9.heap.size=w2.heap.size →
   LinePost b bt R w (.returned (.tuple #[.agg #[.int .i64 b,.int .i64 bt,.slice A L.length c],.int .i64 k])) w9:=fun w2 k hR T2 R2 q2 w9 Z9 gr sz=>
  ⟨A,L.length,c,by rw [hR],by rw [hR];exact (hO.bl q2).grew R2 gr,below_grow q2 gr q2.size (by omega)⟩
 have HRO:=hide ret_old
 clear ret_old
 go_enter Tryz.func43,Tryz.ntmps43
 (try clear cT0 fT0);have cT0:=T0.cell;have fT0:=T0.frozen;(try clear cX0 fX0);have cX0:=X0.cell;have fX0:=X0.frozen
 go_wp2_with fail
 refine (HL.out _ q0).mono ?_
 rintro e w1 ⟨rfl,b1⟩
 replace T0:=T0.below' b1
 replace X0:=X0.below' b1
 replace R0:=R0.below' b1
 have q1:=bstep q0 b1
 clear b1 q0 cT0 fT0 cX0 fX0 HL
 by_cases h1:i≤b
 ·have hR:R=(L,0):=by rw [HLP.out,if_pos h1]
  have HR:=hide (HRO.out _ 0 hR T0 R0 q1)
  clear hR HLP HRO X0 hO hg hS wl
  (try clear cT0 fT0);have cT0:=T0.cell;have fT0:=T0.frozen
  go_wp2_with (refine wpList_store_blk rfl 65 _ _ rfl (cells:=#[.int .i64 b,.int .i64 bt,.slice A L.length c]) rfl rfl R0 rfl log_size (all_one rfl) ?_;intro w9 Z9 gr9 sz9)
  have HP:=hide (HR.out _ Z9 gr9 sz9)
  clear gr9 sz9 R0 T0 cT0 fT0 HR
  (try clear cZ9 fZ9);have cZ9:=Z9.cell;have fZ9:=Z9.frozen
  go_wp2_with fail
  refine bodyPost_ret (v:=.tuple #[.agg #[.int .i64 b,.int .i64 bt,.slice A L.length c],.int .i64 0]) ?_ rfl HP.out
  simp [results,Tryz.results43,go_sem, *]
 by_cases h2:b+L.length+1<i
 ·have hR:R=(L,10):=by rw [HLP.out,if_neg h1,if_pos h2]
  have HR:=hide (HRO.out _ 10 hR T0 R0 q1)
  clear hR HLP HRO X0 hO hg hS
  (try clear cT0 fT0);have cT0:=T0.cell;have fT0:=T0.frozen
  go_wp2_with (refine wpList_store_blk rfl 65 _ _ rfl (cells:=#[.int .i64 b,.int .i64 bt,.slice A L.length c]) rfl rfl R0 rfl log_size (all_one rfl) ?_;intro w9 Z9 gr9 sz9)
  have HP:=hide (HR.out _ Z9 gr9 sz9)
  clear gr9 sz9 R0 T0 cT0 fT0 HR
  (try clear cZ9 fZ9);have cZ9:=Z9.cell;have fZ9:=Z9.frozen
  go_wp2_with fail
  refine bodyPost_ret (v:=.tuple #[.agg #[.int .i64 b,.int .i64 bt,.slice A L.length c],.int .i64 10]) ?_ rfl HP.out
  simp [results,Tryz.results43,go_sem, *]
 obtain ⟨k,hk⟩:=Int.eq_ofNat_of_zero_le (show 0≤i - b - 1 by omega)
 have hkl:k≤L.length:=by omega
 have wi1:IntKind.i64.wrap (i - b)=i - b:=IntWalk.i64_in _ (by omega)
 have wi2:IntKind.i64.wrap (i - b - 1)=(k:Int):=by rw [IntWalk.i64_in _ (by omega)];omega
 rw [if_neg h1,if_neg h2,show (i - b - 1).toNat=k by omega] at HLP
 have s1:=fun w=>run_take Tryz.underlying57 item_size A L.length c k (by omega) w
 have hT:=hS.take k (by omega) c (by omega) (Nat.le_refl _)
 rw [itemRows_take] at hT
 have HCL:=hide (fun w' (q:Below w.heap.size w w')=>Clone_item A k c (itemRows (L.take k)) w' (hT.below q) (item_one _) (by omega))
 have hLk:(L.take k).length=k:=by rw [List.length_take];omega
 have HK:=hide hk
 clear hk hT hO hg hS
 (try clear cT0 fT0);have cT0:=T0.cell;have fT0:=T0.frozen
 go_wp2_with fail
 clear cT0 fT0
 refine wp_region_x (l:=[]) (S:=fun w'=>w'.cell? ⟨w.heap.size,0,none⟩=some (.int .i64 b)∧w'.cell? ⟨w.heap.size,1,none⟩=some (.int .i64 bt)∧w'.cell? ⟨w.heap.size,2,none⟩=some (.slice A L.length c)∧w'.cell? ⟨w.heap.size+1,0,none⟩=some (.int .i64 x.term)∧w'.cell? ⟨w.heap.size+1,1,none⟩=some (.int .i64 x.time)∧w'.cell? ⟨w.heap.size+1,2,none⟩=some (.bool x.nop)∧w'.cell? ⟨w.heap.size+1,3,none⟩=some (.int .i64 x.client)∧w'.cell? ⟨w.heap.size+1,4,none⟩=some (.int .i64 x.seq)∧w'.cell? ⟨w.heap.size+1,5,none⟩=some (.int .i64 x.cmd.kind)∧w'.cell? ⟨w.heap.size+1,6,none⟩=some (.string x.cmd.key)∧w'.cell? ⟨w.heap.size+1,7,none⟩=some (.string x.cmd.field)∧w'.cell? ⟨w.heap.size+1,8,none⟩=some (.string x.cmd.text)∧w'.cell? ⟨w.heap.size+1,9,none⟩=some (.int .i64 x.cmd.n)) (by kernel_rfl) ⟨T0.drew.cell 0,T0.drew.cell 1,T0.drew.cell 2,X0.drew.cell 0,X0.drew.cell 1,X0.drew.cell 2,X0.drew.cell 3,X0.drew.cell 4,X0.drew.cell 5,X0.drew.cell 6,X0.drew.cell 7,X0.drew.cell 8,X0.drew.cell 9⟩ (fun hS=>?_)
 replace T0:=T0.drew;replace X0:=X0.drew;replace R0:=R0.drew;replace q1:=q1.drew
 obtain ⟨wd,hwd⟩:∃ wd,wd=w1.drew:=⟨_,rfl⟩
 rw [←hwd] at hS T0 X0 R0 q1 ⊢
 clear hwd
 have hsG:=hide (fun w' (q:Below wd.heap.size wd w')=>And.intro ((T0.below' q).cell 0) (And.intro ((T0.below' q).cell 1) (And.intro ((T0.below' q).cell 2) (And.intro ((X0.below' q).cell 0) (And.intro ((X0.below' q).cell 1) (And.intro ((X0.below' q).cell 2) (And.intro ((X0.below' q).cell 3) (And.intro ((X0.below' q).cell 4) (And.intro ((X0.below' q).cell 5) (And.intro ((X0.below' q).cell 6) (And.intro ((X0.below' q).cell 7) (And.intro ((X0.below' q).cell 8) ((X0.below' q).cell 9)))))))))))))
 refine wpAnyX_tq 0 ?_
 refine wpAnyX_tq 1 ?_
 refine wpAnyX_tq 2 ?_
 refine wpAnyX_tq 3 ?_
 refine wpAnyX_tq 4 ?_
 refine wpAnyX_tq 5 ?_
 refine wpAnyX_tq 6 ?_
 refine wpAnyX_tq 7 ?_
 refine wpAnyX_tq 8 ?_
 refine wpAnyX_tq 9 ?_
 refine wpAnyX_tq 10 ?_
 refine wpAnyX_tq 11 ?_
 refine wpAnyX_tq 13 ?_
 clear hS
 refine wpG_start2 (j1:=14) (d1:=44) (t1:=35) (z1:=#[.int .i64 x.term,.int .i64 x.time,.bool x.nop,.int .i64 x.client,.int .i64 x.seq,.int .i64 x.cmd.kind,.string x.cmd.key,.string x.cmd.field,.string x.cmd.text,.int .i64 x.cmd.n]) (v1:=vsl 1) (C1:=fun a=>a.tmps[43]?.getD undef = .agg #[.int .i64 x.term,.int .i64 x.time,.bool x.nop,.int .i64 x.client,.int .i64 x.seq,.int .i64 x.cmd.kind,.string x.cmd.key,.string x.cmd.field,.string x.cmd.text,.int .i64 x.cmd.n]) (j2:=17) (d2:=11) (t2:=65) (z2:=#[.int .i64 0,.int .i64 0,.slice none 0 0]) (v2:=vptr) (C2:=fun _=>True) ⟨⟨_,rfl,rfl,rfl,fun a w h=>?al1⟩,vsl_inj 1⟩ ⟨⟨_,rfl,rfl,rfl,fun a w _=>?al2⟩,vptr_inj⟩ (fun al1 al2=>?_)
 (case al1=>simp [go_sem,execOp,h,vsl])
 (case al2=>simp [go_sem,execOp,vptr])
 refine wpG_phase2 (base:=wd.heap.size) al1 al2 12 (f:=3) (fun b_ c_=>#[true,true,true,true,true,true,true,true,true,true,true,true,false,true,b_,false,false,c_,false]) (fun w'=>Below wd.heap.size wd w') (x:=undef) (y:=undef) (fun w' q=>hsG.out w' q) (fun w' o q=>q.alloc q.size o) (fun w' q=>q.size) (fun _ _=>rfl) (fun _ _=>trivial) (Below.refl _ wd) PendG.no PendG.no TwoG.no ?_
 intro b_ c_ x_ y_ w2 G2 hx hy hxy K_ hK_
 (try simp only [vptr,vsl,Act.put,List.setIfInBounds_toArray,List.set_cons_zero,List.set_cons_succ,List.getElem_toArray,List.getElem_cons_zero,List.getElem_cons_succ])
 go_wp2_with fail
 refine (HCL.out _ (bstep q1 G2)).mono ?_
 rintro e w3 ⟨v3,rfl,O3,b3⟩
 obtain ⟨A3,n3,c3,rfl⟩:=own_slice O3
 go_wp2_with fail
 have G3:=bstep G2 b3
 replace hx:=hx.bl b3
 replace hy:=hy.bl b3
 refine hK_.out _ _ (Or.inr (hsG.out _ G3)) ?_
 clear hK_ K_ HCL
 have h23:=G2.size
 replace O3:=O3.mono h23
 refine wpG_force (base:=wd.heap.size) al1 al2 (f:=3) (fun b_ c_=>#[true,true,true,true,true,true,true,true,true,true,true,true,true,true,b_,false,false,c_,false]) (fun w'=>Below w3.heap.size w3 w') (x:=x_) (y:=y_) (fun w' q=>hsG.out w' (bstep G3 q)) (fun w' o q=>q.alloc q.size o) (fun w' q=>Nat.le_trans G3.size q.size) (fun _ _=>rfl) (fun _ _=>trivial) (Below.refl _ w3) hx hy hxy ?_
 clear hx hy hxy
 intro c_ p_ y_ w4 G4 hp4 B4 hy hne
 replace O3:=O3.below G4
 replace G4:=bstep G3 G4
 refine wpG_phase1 (base:=wd.heap.size) al2 15 (f:=2) (fun b_=>#[true,true,true,true,true,true,true,true,true,true,true,true,true,true,true,false,false,b_,false]) (fun w'=>Below w4.heap.size w4 w') (x:=y_) (fun w' q=>hsG.out w' (bstep G4 q)) (fun w' o q=>q.alloc q.size o) (fun w' q=>Nat.le_trans G4.size q.size) (fun _=>trivial) (Below.refl _ w4) hy ?_
 clear hy
 intro c_ y_ w5 G5 hy K_ hK_
 (try simp only [vptr,vsl,Act.put,List.setIfInBounds_toArray,List.set_cons_zero,List.set_cons_succ,List.getElem_toArray,List.getElem_cons_zero,List.getElem_cons_succ])
 replace O3:=O3.below G5
 replace B4:=B4.below' G5
 replace G5:=bstep G4 G5
 have hX5:Sl w5 10 (some ⟨p_,0,none⟩) 1 1 (itemRows [x]):=Sl.of_blk B4 rfl (by intro r hr;obtain ⟨v,hv,rfl⟩:=List.mem_map.1 hr;rfl) rfl (by simp [maxLen])
 have h35:=G5.size
 go_wp2_with (at_builtin;refine wpList_pushes_g rfl _ _ _ rfl Tryz.underlying57 item_info rfl (by decide) (by rfl) O3 (by rfl) hX5 (item_one _) (by rw [itemRows_length,hLk];unfold maxLen at *;omega) (by rw [itemRows_length,hLk];omega) h35 ?_;intro A6 n6 c6 w6 O6 b6 g6)
 obtain rfl:n6=k+1:=by have:=O6.sl'.len;simp only [List.length_append,itemRows_length,hLk,List.length_singleton] at this;exact this.symm
 have S6:=O6.sl'
 rw [show itemRows (L.take k) ++ itemRows [x]=itemRows (L.take k ++ [x]) by simp [itemRows]] at O6 S6
 have G6:=G5.trans b6
 replace hy:=hy.grew g6 fun p _ R=>own_block_ne O3 R (by decide)
 have hS6:=hsG.out _ G6
 refine hK_.out _ _ (Or.inr hS6) ?_
 clear hK_ K_ G5 b6 g6 O3 hX5 B4
 refine wpG_take1 16 (f:=1) (fun b_=>#[true,true,true,true,true,true,true,true,true,true,true,true,true,true,true,true,false,b_,false]) ?_
 refine wpG_lay1 (base:=wd.heap.size) al2 (f:=1) (fun b_=>#[true,true,true,true,true,true,true,true,true,true,true,true,true,true,true,true,true,b_,false]) (fun w'=>Below w6.heap.size w6 w') (x:=y_) (fun w' q=>hsG.out w' (bstep G6 q)) (fun w' o q=>q.alloc q.size o) (fun w' q=>Nat.le_trans G6.size q.size) (fun _=>trivial) (Below.refl _ w6) hy ?_
 clear hy hS6
 intro g7 w7 b7 hg7 B7
 (try simp only [vptr,vsl,Act.put,List.setIfInBounds_toArray,List.set_cons_zero,List.set_cons_succ,List.getElem_toArray,List.getElem_cons_zero,List.getElem_cons_succ])
 replace O6:=O6.below b7
 replace G6:=bstep G6 b7
 have q7:=bstep q1 G6
 have T7:=T0.below' G6
 have R7:=R0.below' G6
 have hS7:=hsG.out _ G6
 have X7:=X0.below' G6
 clear al1 al2 b7 S6 X0
 have hq1:=q1.size
 have HNE:=hide (show w.heap.size≠g7∧w.heap.size+1≠g7∧w.heap.size+1+1≠g7 from ⟨by have:=T0.lt;omega,by have:=R0.lt;omega,by have:=R0.lt;omega⟩)
 refine wpAnyX_oq 18 fun K hK=>?_
 refine wpList_store_blk rfl 65 _ _ rfl (cells:=#[.int .i64 b,.int .i64 bt,.slice A6 (k+1) c6]) rfl rfl B7 rfl log_size (all_one rfl) ?_
 intro w9 Z9 gr9 sz9
 have T9:=grown_blk T7 gr9 HNE.out.1
 have R9:=grown_blk R7 gr9 HNE.out.2.2
 have O9:=own_grew O6 B7 gr9
 have q9:=below_grow q7 gr9 q7.size (by omega)
 have X9:=grown_blk X7 gr9 HNE.out.2.1
 refine hK.out _ _ (Or.inr ⟨T9.cell 0,T9.cell 1,T9.cell 2,X9.cell 0,X9.cell 1,X9.cell 2,X9.cell 3,X9.cell 4,X9.cell 5,X9.cell 6,X9.cell 7,X9.cell 8,X9.cell 9⟩) (fun _=>?_)
 clear hK K
 refine wpAnyX_done (by kernel_rfl) ?_ _
 obtain ⟨cl,hcl⟩:∃ cl,cl=checkLog b bt (L.take k ++ [x]):=⟨_,rfl⟩
 have HCK:=hide (Check_any b bt A6 (k+1) c6 (L.take k ++ [x]) w9 hb1 hb2 O9.sl')
 rw [←hcl] at HCK HLP
 clear hcl gr9 sz9 R7 T7 X7 X9 B7 O6 hS7 R0 T0 G6 q7 HNE hLk s1 wi1 wi2 wl h1 h2
 (try clear cZ9 fZ9);have cZ9:=Z9.cell;have fZ9:=Z9.frozen
 go_wp2_with fail
 refine HCK.out.mono ?_
 rintro e w10 ⟨rfl,b10⟩
 replace T9:=T9.below' b10
 replace R9:=R9.below' b10
 replace Z9:=Z9.below' b10
 replace O9:=O9.below b10
 have q10:=bstep q9 b10
 clear b10 HCK cZ9 fZ9
 by_cases h0:cl=0
 ·rw [if_pos h0] at HLP
  subst h0
  clear T9 HRO
  (try clear cZ9 fZ9);have cZ9:=Z9.cell;have fZ9:=Z9.frozen
  go_wp2_with (refine wpList_store_blk rfl 65 _ _ rfl (cells:=#[.int .i64 b,.int .i64 bt,.slice A6 (k+1) c6]) rfl rfl R9 rfl log_size (all_one rfl) ?_;intro w11 Z11 gr11 sz11)
  have HP:=hide (show LinePost b bt R w (.returned (.tuple #[.agg #[.int .i64 b,.int .i64 bt,.slice A6 (k+1) c6],.int .i64 0])) w11 from ⟨A6,k+1,c6,by rw [HLP.out],by rw [HLP.out];exact OI.grew ⟨_,O9⟩ R9 gr11,below_grow q10 gr11 q10.size (by omega)⟩)
  clear gr11 sz11 R9 Z9 cZ9 fZ9 O9 q10 q9 HLP
  (try clear cZ11 fZ11);have cZ11:=Z11.cell;have fZ11:=Z11.frozen
  go_wp2_with fail
  refine bodyPost_ret (v:=.tuple #[.agg #[.int .i64 b,.int .i64 bt,.slice A6 (k+1) c6],.int .i64 0]) ?_ rfl HP.out
  simp [results,Tryz.results43,go_sem, *]
 ·rw [if_neg h0] at HLP
  have hcb:(cl == 0)=false:=by simpa using h0
  have HR:=hide (HRO.out _ 10 HLP.out T9 R9 q10)
  clear HRO HLP Z9 O9 h0
  (try clear cT9 fT9);have cT9:=T9.cell;have fT9:=T9.frozen
  go_wp2_with (refine wpList_store_blk rfl 65 _ _ rfl (cells:=#[.int .i64 b,.int .i64 bt,.slice A L.length c]) rfl rfl R9 rfl log_size (all_one rfl) ?_;intro w11 Z11 gr11 sz11)
  have HP:=hide (HR.out _ Z11 gr11 sz11)
  clear gr11 sz11 R9 T9 cT9 fT9 HR q10 q9
  (try clear cZ11 fZ11);have cZ11:=Z11.cell;have fZ11:=Z11.frozen
  go_wp2_with fail
  refine bodyPost_ret (v:=.tuple #[.agg #[.int .i64 b,.int .i64 bt,.slice A L.length c],.int .i64 10]) ?_ rfl HP.out
  simp [results,Tryz.results43,go_sem, *]
end Go.Proofs.YtgmojjclobkpjaaGreatDoor

namespace Go.Proofs.YtgmojjclobkpjaaGreatDoor
set_option linter.all false
set_option maxHeartbeats 32000000
open Go.RowKit
structure Recs (w:World) (A:Option Addr) (n c:Nat) (rs:List RK) (rows:List (List Value)):Prop where
 sl:Sl w 20 A n c rows
 len:rows.length=rs.length
 at_:∀ k (h:k<rs.length) (h':k<rows.length),RecAt w rs[k] rows[k]
theorem Recs.bl {w w':World} {A:Option Addr} {n c:Nat} {rs:List RK} {rows:List (List Value)} (h:Recs w A n c rs rows) (hb:Below w.heap.size w w'):Recs w' A n c rs rows:=⟨h.sl.below hb,h.len,fun k h1 h2=>(h.at_ k h1 h2).bl hb⟩
theorem Recs.n_ {w:World} {A:Option Addr} {n c:Nat} {rs:List RK} {rows:List (List Value)} (h:Recs w A n c rs rows):rs.length=n:=by rw [←h.len,h.sl.len]
theorem Recs.range {w:World} {A:Option Addr} {n c:Nat} {rs:List RK} {rows:List (List Value)} (h:Recs w A n c rs rows) {k:Nat} (hk:k<rs.length) :
  ∃ b off row,A=some ⟨b,off,none⟩∧b<w.heap.size∧w.rangeAt b (off+k*20) row∧RecAt w rs[k] row:=by
 have hk':k<rows.length:=by rw [h.len];exact hk
 obtain ⟨b,off,rfl,hb,hc⟩:=h.sl.seg.at_ (i:=k) hk'
 refine ⟨b,off,rows[k],rfl,hb,fun j v hv=>?_,h.at_ k hk hk'⟩
 rw [Nat.add_assoc]
 exact hc j v hv
theorem disk_log {w2:World} {g:Nat} {x0 x1 x2 x3 x4 x5 x6 x7 x8 x9 x10:Value} (u0 u1 u2:Value) (R:Blk w2 g 67 #[x0,x1,x2,x3,x4,x5,x6,x7,x8,x9,x10]) :
  Blk (((w2.setCell ⟨g,8,none⟩ u0).setCell ⟨g,9,none⟩ u1).setCell ⟨g,10,none⟩ u2) g 67 #[x0,x1,x2,x3,x4,x5,x6,x7,u0,u1,u2]∧w2.grownBy (((w2.setCell ⟨g,8,none⟩ u0).setCell ⟨g,9,none⟩ u1).setCell ⟨g,10,none⟩ u2) (some g)∧(((w2.setCell ⟨g,8,none⟩ u0).setCell ⟨g,9,none⟩ u1).setCell ⟨g,10,none⟩ u2).heap.size=w2.heap.size:=by
 have R0:=one_step (w:=w2) (cs':=#[x0,x1,x2,x3,x4,x5,x6,x7,u0,x9,x10]) 8 u0 ⟨R,grown_refl _ _,rfl⟩ rfl
 have R1:=one_step (w:=w2) (cs':=#[x0,x1,x2,x3,x4,x5,x6,x7,u0,u1,x10]) 9 u1 R0 rfl
 exact one_step (w:=w2) (cs':=#[x0,x1,x2,x3,x4,x5,x6,x7,u0,u1,u2]) 10 u2 R1 rfl
theorem disk_mach {w2:World} {g:Nat} {x0 x1 x2 x3 x4 x5 x6 x7 x8 x9 x10:Value} (u0 u1 u2 u3:Value) (R:Blk w2 g 67 #[x0,x1,x2,x3,x4,x5,x6,x7,x8,x9,x10]) :
  Blk ((((w2.setCell ⟨g,4,none⟩ u0).setCell ⟨g,5,none⟩ u1).setCell ⟨g,6,none⟩ u2).setCell ⟨g,7,none⟩ u3) g 67 #[x0,x1,x2,x3,u0,u1,u2,u3,x8,x9,x10]∧w2.grownBy ((((w2.setCell ⟨g,4,none⟩ u0).setCell ⟨g,5,none⟩ u1).setCell ⟨g,6,none⟩ u2).setCell ⟨g,7,none⟩ u3) (some g)∧((((w2.setCell ⟨g,4,none⟩ u0).setCell ⟨g,5,none⟩ u1).setCell ⟨g,6,none⟩ u2).setCell ⟨g,7,none⟩ u3).heap.size=w2.heap.size:=by
 have R0:=one_step (w:=w2) (cs':=#[x0,x1,x2,x3,u0,x5,x6,x7,x8,x9,x10]) 4 u0 ⟨R,grown_refl _ _,rfl⟩ rfl
 have R1:=one_step (w:=w2) (cs':=#[x0,x1,x2,x3,u0,u1,x6,x7,x8,x9,x10]) 5 u1 R0 rfl
 have R2:=one_step (w:=w2) (cs':=#[x0,x1,x2,x3,u0,u1,u2,x7,x8,x9,x10]) 6 u2 R1 rfl
 exact one_step (w:=w2) (cs':=#[x0,x1,x2,x3,u0,u1,u2,u3,x8,x9,x10]) 7 u3 R2 rfl
theorem disk_snap {w2:World} {g:Nat} {x0 x1 x2 x3 x4 x5 x6 x7 x8 x9 x10:Value} (u0 u1 u2 u3 u4 u5:Value) (R:Blk w2 g 67 #[x0,x1,x2,x3,x4,x5,x6,x7,x8,x9,x10]) :
  Blk ((((((w2.setCell ⟨g,2,none⟩ u0).setCell ⟨g,3,none⟩ u1).setCell ⟨g,4,none⟩ u2).setCell ⟨g,5,none⟩ u3).setCell ⟨g,6,none⟩ u4).setCell ⟨g,7,none⟩ u5) g 67 #[x0,x1,u0,u1,u2,u3,u4,u5,x8,x9,x10]∧w2.grownBy ((((((w2.setCell ⟨g,2,none⟩ u0).setCell ⟨g,3,none⟩ u1).setCell ⟨g,4,none⟩ u2).setCell ⟨g,5,none⟩ u3).setCell ⟨g,6,none⟩ u4).setCell ⟨g,7,none⟩ u5) (some g)∧((((((w2.setCell ⟨g,2,none⟩ u0).setCell ⟨g,3,none⟩ u1).setCell ⟨g,4,none⟩ u2).setCell ⟨g,5,none⟩ u3).setCell ⟨g,6,none⟩ u4).setCell ⟨g,7,none⟩ u5).heap.size=w2.heap.size:=by
 have R0:=one_step (w:=w2) (cs':=#[x0,x1,u0,x3,x4,x5,x6,x7,x8,x9,x10]) 2 u0 ⟨R,grown_refl _ _,rfl⟩ rfl
 have R1:=one_step (w:=w2) (cs':=#[x0,x1,u0,u1,x4,x5,x6,x7,x8,x9,x10]) 3 u1 R0 rfl
 have R2:=one_step (w:=w2) (cs':=#[x0,x1,u0,u1,u2,x5,x6,x7,x8,x9,x10]) 4 u2 R1 rfl
 have R3:=one_step (w:=w2) (cs':=#[x0,x1,u0,u1,u2,u3,x6,x7,x8,x9,x10]) 5 u3 R2 rfl
 have R4:=one_step (w:=w2) (cs':=#[x0,x1,u0,u1,u2,u3,u4,x7,x8,x9,x10]) 6 u4 R3 rfl
 exact one_step (w:=w2) (cs':=#[x0,x1,u0,u1,u2,u3,u4,u5,x8,x9,x10]) 7 u5 R4 rfl
def DkAt (w:World) (g:Nat) (d:Dk):Prop:=∃ (A:Option Addr) (n c:Nat) (B:Option Addr) (k e:Nat) (I:Option Addr) (m q:Nat),
 Blk w g 67 #[.int .i64 d.term,.int .i64 d.who,.int .i64 d.si,.int .i64 d.st,.int .i64 d.m.now,.slice A n c,.int .i64 d.m.next,.slice B k e,.int .i64 d.b,.int .i64 d.bt,.slice I m q]∧St w A n c d.m.ents∧Ci w B k e d.m.clis∧OI w I m q d.L
theorem DkAt.bl {w w':World} {g:Nat} {d:Dk} (h:DkAt w g d) (hb:Below w.heap.size w w'):DkAt w' g d:=by
 obtain ⟨A,n,c,B,k,e,I,m,q,h1,h2,h3,h4⟩:=h
 exact ⟨A,n,c,B,k,e,I,m,q,h1.below' hb,h2.bl hb,h3.bl hb,h4.bl hb⟩
def FoldPost (r:Dk×Int) (w:World) (e:Ending) (w':World):Prop:=
 (r.2=0→∃ (A:Option Addr) (n c:Nat) (B:Option Addr) (k d:Nat) (I:Option Addr) (m q:Nat),e = .returned (.tuple #[.agg #[.int .i64 r.1.term,.int .i64 r.1.who,.int .i64 r.1.si,.int .i64 r.1.st,.int .i64 r.1.m.now,.slice A n c,.int .i64 r.1.m.next,.slice B k d,.int .i64 r.1.b,.int .i64 r.1.bt,.slice I m q],.int .i64 0])∧St w' A n c r.1.m.ents∧Ci w' B k d r.1.m.clis∧OI w' I m q r.1.L) ∧
 (r.2≠0→e = .returned (.tuple #[.agg #[.int .i64 0,.int .i64 0,.int .i64 0,.int .i64 0,.int .i64 0,.slice none 0 0,.int .i64 0,.slice none 0 0,.int .i64 0,.int .i64 0,.slice none 0 0],.int .i64 r.2]))∧Below w.heap.size w w'
set_option maxRecDepth 100000 in
theorem Fold_any (rs:List RK) (hrs:∀ r∈rs,r.Ok) (A:Option Addr) (n c:Nat) (rows:List (List Value)) (w:World) (hR:Recs w A n c rs rows) :
  Calls Tryz.prog 20 #[.slice A n c] w (FoldPost (foldG newDk rs) w):=by
 obtain rfl:=hR.n_
 have hnc:=hR.sl.nc
 have hcm:=hR.sl.cm
 unfold maxLen at hcm
 obtain ⟨RR,hRR⟩:∃ RR,RR=foldG newDk rs:=⟨_,rfl⟩
 rw [←hRR]
 have HRR:=hide (show RR=foldG newDk (rs.drop 0) from hRR)
 clear hRR
 have HRS:=hide hrs
 clear hrs
 have Z0:=Blk.new w 67 #[.int .i64 0,.int .i64 0,.int .i64 0,.int .i64 0,.int .i64 0,.slice none 0 0,.int .i64 0,.slice none 0 0,.int .i64 0,.int .i64 0,.slice none 0 0]
 have q0:Below w.heap.size w (w.alloc (.cells #[.int .i64 0,.int .i64 0,.int .i64 0,.int .i64 0,.int .i64 0,.slice none 0 0,.int .i64 0,.slice none 0 0,.int .i64 0,.int .i64 0,.slice none 0 0] 67)):=below_by
 go_enter Tryz.func20,Tryz.ntmps20
 go_wp2_with fail
 refine (TapeNew_any _).mono ?_
 rintro e w1 ⟨rfl,b1⟩
 have q1:=bstep q0 b1
 replace Z0:=Z0.below' b1
 clear b1 q0
 have hz0:=hide Z0.lt
 have D0:=Blk.new w1 67 #[.int .i64 0,.int .i64 (-1),.int .i64 0,.int .i64 0,.int .i64 0,.slice none 0 0,.int .i64 1,.slice none 0 0,.int .i64 0,.int .i64 0,.slice none 0 0]
 replace Z0:=Z0.alloc (.cells #[.int .i64 0,.int .i64 (-1),.int .i64 0,.int .i64 0,.int .i64 0,.slice none 0 0,.int .i64 1,.slice none 0 0,.int .i64 0,.int .i64 0,.slice none 0 0] 67)
 have hgD:=hide (q1.size)
 replace q1:Below w.heap.size w (w1.alloc (.cells #[.int .i64 0,.int .i64 (-1),.int .i64 0,.int .i64 0,.int .i64 0,.slice none 0 0,.int .i64 1,.slice none 0 0,.int .i64 0,.int .i64 0,.slice none 0 0] 67)):=below_by
 go_wp2_with fail
 obtain ⟨w2,hw2⟩:∃ w2,w2=w1.alloc (.cells #[.int .i64 0,.int .i64 (-1),.int .i64 0,.int .i64 0,.int .i64 0,.slice none 0 0,.int .i64 1,.slice none 0 0,.int .i64 0,.int .i64 0,.slice none 0 0] 67):=⟨_,rfl⟩
 have hDk:DkAt w2 w1.heap.size newDk:=⟨none,0,0,none,0,0,none,0,0,by rw [hw2];exact D0,St.nil _,Ci.nil _,⟨0,Own.nil⟩⟩
 rw [←hw2] at Z0 q1 ⊢
 clear hw2 D0
 obtain ⟨gD,hgd⟩:∃ g,g=w1.heap.size:=⟨_,rfl⟩
 rw [←hgd] at hDk hgD ⊢
 have hzD:Hid (w.heap.size<gD):=hide (by rw [hgd];exact hz0.out)
 clear hgd hz0
 go_loopw [15] (fun s15 wr=>∃ (k:Nat) (dk:Dk),k≤rs.length∧s15 = .int .i64 (k:Int)∧Blk wr w.heap.size 67 #[.int .i64 0,.int .i64 0,.int .i64 0,.int .i64 0,.int .i64 0,.slice none 0 0,.int .i64 0,.slice none 0 0,.int .i64 0,.int .i64 0,.slice none 0 0]∧DkAt wr gD dk∧Hid (RR=foldG dk (rs.drop k))∧Hid dk.Ok∧Below w.heap.size w wr) (fun s15 _=>rs.length - (intOf s15).toNat)
 case atStart=>exact ⟨0,newDk,by omega,rfl,Z0,hDk,HRR,hide new_ok,q1⟩
 case round=>
  obtain ⟨k,dk,hk,rfl,Z,D,HQ,HOK,q⟩:=hrel
  clear Z0 hDk q1
  by_cases hlt:k<rs.length
  ·have hr:=HRS.out rs[k] (List.getElem_mem hlt)
   have HQ':=foldG_step hlt HQ
   obtain ⟨b,off,row,rfl,hbb,hrg,hrec⟩:=(hR.bl q).range hlt
   obtain ⟨r,hre⟩:∃ r,r=rs[k]:=⟨_,rfl⟩
   rw [←hre] at hr HQ' hrec
   clear hre
   have hl20:=hrec.len
   have HONE:=hide hrec.one
   have HSZ:=hide (show (Tryz.prog.info? 45).map (·.size)=some row.length by rw [hl20];exact rec_size)
   have HSZ2:=hide (show (Tryz.prog.info? 45).map (·.size)=some row.toArray.size by rw [List.size_toArray,hl20];exact rec_size)
   have HL2:=hide (show 20=row.toArray.size by rw [List.size_toArray,hl20])
   have HRG:=hide hrg
   have HREC:=hide hrec
   have HR1:=hide hr
   clear hrg hl20 hrec hr
   have q34:Below wr.heap.size wr (wr.alloc (.cells #[.int .i64 0,.int .i64 0,.int .i64 0,.int .i64 0,.int .i64 0,.int .i64 0,.bool false,.int .i64 0,.int .i64 0,.int .i64 0,.string { data:=#[] },.string { data:=#[] },.string { data:=#[] },.int .i64 0,.int .i64 0,.int .i64 0,.int .i64 0,.slice none 0 0,.int .i64 0,.slice none 0 0] 45)):=below_by
   go_wp2_with (first|(refine wpList_load_mid rfl 45 _ rfl _ _ rfl row _ HRG.out Tryz.underlying45 rfl HSZ.out ?_)|(refine wpList_store_blk rfl 45 _ _ rfl (cells:=row.toArray) rfl rfl (Blk.new wr _ _) HL2.out HSZ2.out HONE.out ?_;intro w4 Z4 gr4 sz4)|(refine wpList_load_blk rfl 45 _ rfl rfl Z4 Tryz.underlying45 rfl HSZ2.out ?_))
   have b4:Below wr.heap.size wr w4:=below_grow q34 gr4 (by simp) (Nat.le_refl _)
   refine (Check_rec HR1.out _ (HREC.out.bl b4)).mono ?_
   rintro e w5 ⟨rfl,b5⟩
   have b35:Below wr.heap.size wr w5:=bstep b4 b5
   have Rk:=Z4.below' b5
   clear Z4 gr4 sz4 q34 b4 b5
   have HZG:=hide (show gD<wr.heap.size from by obtain ⟨_,_,_,_,_,_,_,_,_,h,_⟩:=D;exact h.lt)
   have hws:=q.size
   replace Z:=Z.below' b35
   replace D:=D.bl b35
   have q5:=bstep q b35
   obtain ⟨A1,n1,c1,B1,k1,d1,I1,m1,e1,D1,hE,hC,hI⟩:=D
   clear HSZ HSZ2 HL2 HONE HRG q
   cases r with
   | mark t f=>
    obtain rfl:row=markCells t f:=HREC.out
    replace Rk:Blk w5 wr.heap.size 45 #[.int .i64 1,.int .i64 t,.int .i64 f,.int .i64 0,.int .i64 0,.int .i64 0,.bool false,.int .i64 0,.int .i64 0,.int .i64 0,.string { data:=#[] },.string { data:=#[] },.string { data:=#[] },.int .i64 0,.int .i64 0,.int .i64 0,.int .i64 0,.slice none 0 0,.int .i64 0,.slice none 0 0]:=Rk
    have HQ2:=hide (show RR=foldG { dk with term:=t,who:=f } (rs.drop (k+1)) from HQ'.out)
    have HOK2:=hide (show ({ dk with term:=t,who:=f }:Dk).Ok from stepD_ok (r:=.mark t f) HOK.out HR1.out)
    clear HREC HQ' HQ b35
    (try clear cRk fRk);have cRk:=Rk.cell;have fRk:=Rk.frozen
    go_wp2_with fail
    clear cRk fRk
    have bd:Below w5.heap.size w5 w5.drew:=(Below.refl _ w5).drew
    refine wp_region_x (l:=[]) (S:=fun w'=>w'.cell? ⟨wr.heap.size,1,none⟩=some (.int .i64 t)∧w'.cell? ⟨wr.heap.size,2,none⟩=some (.int .i64 f)) (by kernel_rfl) ⟨Rk.drew.cell 1,Rk.drew.cell 2⟩ (fun hS=>?_)
    replace Rk:=Rk.drew;replace Z:=Z.drew;replace D1:=D1.drew;replace hE:=hE.bl bd;replace hC:=hC.bl bd;replace hI:=hI.bl bd;replace q5:=q5.drew
    clear bd
    obtain ⟨wd,hwd⟩:∃ wd,wd=w5.drew:=⟨_,rfl⟩
    rw [←hwd] at hS Rk Z D1 hE hC hI q5 ⊢
    clear hwd
    have E1:=one_step (w:=wd) (cs':=#[.int .i64 t,.int .i64 dk.who,.int .i64 dk.si,.int .i64 dk.st,.int .i64 dk.m.now,.slice A1 n1 c1,.int .i64 dk.m.next,.slice B1 k1 d1,.int .i64 dk.b,.int .i64 dk.bt,.slice I1 m1 e1]) 0 (.int .i64 t) ⟨D1,grown_refl _ _,rfl⟩ rfl
    have E2:=one_step (w:=wd) (cs':=#[.int .i64 t,.int .i64 f,.int .i64 dk.si,.int .i64 dk.st,.int .i64 dk.m.now,.slice A1 n1 c1,.int .i64 dk.m.next,.slice B1 k1 d1,.int .i64 dk.b,.int .i64 dk.bt,.slice I1 m1 e1]) 1 (.int .i64 f) E1 rfl
    have HE1:=hide E1
    have HE2:=hide E2
    clear E1 E2
    refine wpAnyX_tq 0 ?_
    refine wpAnyX_tq 1 ?_
    refine wpAnyX_tq 2 ?_
    refine wpAnyX_tq 3 ?_
    refine wpAnyX_tq 4 ?_
    have hg1:=D1.lt
    refine wpAnyX_oq 5 fun K hK=>?_
    (try clear cD1 fD1);have cD1:=D1.cell;have fD1:=D1.frozen
    go_wp2_with fail
    clear cD1 fD1
    have Rk6:=grown_blk Rk HE1.out.2.1 (by have:=HZG.out;omega)
    refine hK.out _ _ (Or.inr ⟨Rk6.cell 1,Rk6.cell 2⟩) (fun hS=>?_)
    replace hS:=hS.resolve_left (by decide)
    clear hK K
    have D6:=HE1.out.1
    have Rk7:=grown_blk Rk HE2.out.2.1 (by have:=HZG.out;omega)
    obtain ⟨w6,hw6⟩:∃ w6,w6=wd.setCell ⟨gD,0,none⟩ (.int .i64 t):=⟨_,rfl⟩
    rw [←hw6] at hS D6 HE2 Rk7 ⊢
    have hg6:=D6.lt
    clear hw6 HE1 Rk6
    refine wpAnyX_tq 6 ?_
    refine wpAnyX_oq 7 fun K hK=>?_
    (try clear cD6 fD6);have cD6:=D6.cell;have fD6:=D6.frozen
    go_wp2_with fail
    clear cD6 fD6
    refine hK.out _ _ (Or.inr ⟨Rk7.cell 1,Rk7.cell 2⟩) (fun _=>?_)
    clear hK K
    refine wpAnyX_done (by kernel_rfl) ?_ _
    obtain ⟨w7,hw7⟩:∃ w7,w7=w6.setCell ⟨gD,1,none⟩ (.int .i64 f):=⟨_,rfl⟩
    rw [←hw7] at HE2 ⊢
    have Z7:=grown_blk Z HE2.out.2.1 (by have:=hzD.out;omega)
    have q7:=below_grow q5 HE2.out.2.1 q5.size (by have:=hzD.out;omega)
    have DD:DkAt w7 gD { dk with term:=t,who:=f }:=⟨A1,n1,c1,B1,k1,d1,I1,m1,e1,HE2.out.1,hE.grown D1 HE2.out.2.1,hC.grown D1 HE2.out.2.1,hI.grew D1 HE2.out.2.1⟩
    clear hw7 Rk7 hS HE2 D6 D1 Rk Z hE hC hI
    go_wp2_with fail
    go_roundw
    case rel=>exact ⟨k+1,{ dk with term:=t,who:=f },by omega,by go_num,Z7,DD,HQ2,HOK2,q7⟩
    case measure=>simp [intOf];omega
   | line i x=>
    obtain rfl:row=lineCells i x:=HREC.out
    replace Rk:Blk w5 wr.heap.size 45 #[.int .i64 2,.int .i64 0,.int .i64 0,.int .i64 i,.int .i64 x.term,.int .i64 x.time,.bool x.nop,.int .i64 x.client,.int .i64 x.seq,.int .i64 x.cmd.kind,.string x.cmd.key,.string x.cmd.field,.string x.cmd.text,.int .i64 x.cmd.n,.int .i64 0,.int .i64 0,.int .i64 0,.slice none 0 0,.int .i64 0,.slice none 0 0]:=Rk
    obtain ⟨LR,hLR⟩:∃ LR,LR=lineP dk.b dk.bt dk.L i x:=⟨_,rfl⟩
    have HQ2:=hide (show RR=if LR.2=0 then foldG { dk with L:=LR.1 } (rs.drop (k+1)) else ({ dk with L:=LR.1 },LR.2) by rw [hLR];exact HQ'.out)
    have HOK2:=hide (show ({ dk with L:=LR.1 }:Dk).Ok by rw [hLR];exact stepD_ok (r:=.line i x) HOK.out HR1.out)
    have hin:=number_iff.1 HR1.out.1
    have HLN:=hide (fun w' (b':Below w5.heap.size w5 w')=>line_any dk.b dk.bt i I1 m1 e1 dk.L x w' (hI.bl b') HOK.out.log ⟨by omega,by omega⟩)
    rw [←hLR] at HLN
    clear hLR HREC HQ' HQ b35 hin
    obtain ⟨L6,ec⟩:=LR
    simp only at HQ2 HOK2
    (try clear cRk fRk);have cRk:=Rk.cell;have fRk:=Rk.frozen;(try clear cD1 fD1);have cD1:=D1.cell;have fD1:=D1.frozen
    go_wp2_with fail
    refine (HLN.out _ (Below.refl _ _)).mono ?_
    rintro e w6 ⟨I6,m6,e6,rfl,hI6,b6⟩
    simp only at hI6
    replace Z:=Z.below' b6
    replace D1:=D1.below' b6
    replace hE:=hE.bl b6
    replace hC:=hC.bl b6
    have q6:=bstep q5 b6
    clear b6 cRk fRk cD1 fD1 HLN hI Rk
    have ba:Below w6.heap.size w6 (w6.alloc (.cells #[.int .i64 0,.int .i64 0,.slice none 0 0] 65)):=below_by
    have hws6:=q6.size
    have hg6:=D1.lt
    by_cases hec:ec=0
    ·subst hec
     have HQ3:=hide (show RR=foldG { dk with L:=L6 } (rs.drop (k+1)) from HQ2.out)
     clear HQ2
     go_upto_region 13 with (refine wpList_store_blk rfl 65 _ _ rfl (cells:=#[.int .i64 dk.b,.int .i64 dk.bt,.slice I6 m6 e6]) rfl rfl (Blk.new w6 _ _) rfl log_size (all_one rfl) ?_;intro w7 Z7 gr7 sz7)
     have b67:Below w6.heap.size w6 w7:=below_grow ba gr7 (by simp) (Nat.le_refl _)
     replace Z:=Z.below' b67
     replace D1:=D1.below' b67
     replace hE:=hE.bl b67
     replace hC:=hC.bl b67
     replace hI6:=hI6.bl b67
     replace q6:=bstep q6 b67
     have hg7:=D1.lt
     clear gr7 sz7 b67 ba
     have HE7:=hide (disk_log (.int .i64 dk.b) (.int .i64 dk.bt) (.slice I6 m6 e6) D1)
     (try clear cZ7 fZ7);have cZ7:=Z7.cell;have fZ7:=Z7.frozen;(try clear cD1 fD1);have cD1:=D1.cell;have fD1:=D1.frozen
     go_upto_region 19 with fail
     obtain ⟨w8,hw8⟩:∃ w8,w8=((w7.setCell ⟨gD,8,none⟩ (.int .i64 dk.b)).setCell ⟨gD,9,none⟩ (.int .i64 dk.bt)).setCell ⟨gD,10,none⟩ (.slice I6 m6 e6):=⟨_,rfl⟩
     rw [←hw8] at HE7 ⊢
     clear hw8 cZ7 fZ7 cD1 fD1
     have Z8:=grown_blk Z HE7.out.2.1 (by have:=hzD.out;omega)
     have q8:=below_grow q6 HE7.out.2.1 q6.size (by have:=hzD.out;omega)
     have DD:DkAt w8 gD { dk with L:=L6 }:=⟨A1,n1,c1,B1,k1,d1,I6,m6,e6,HE7.out.1,hE.grown D1 HE7.out.2.1,hC.grown D1 HE7.out.2.1,hI6.grew D1 HE7.out.2.1⟩
     clear HE7 D1 Z7 Z hE hC hI6
     go_wp2_with fail
     go_roundw
     case rel=>exact ⟨k+1,{ dk with L:=L6 },by omega,by go_num,Z8,DD,HQ3,HOK2,q8⟩
     case measure=>simp [intOf];omega
    ·have hcb:(ec == 0)=false:=by simpa using hec
     have HQ3:=hide (show RR=({ dk with L:=L6 },ec) from by rw [HQ2.out,if_neg hec])
     have HEC:=hide hec
     clear HQ2 hec
     go_upto_region 13 with (refine wpList_store_blk rfl 65 _ _ rfl (cells:=#[.int .i64 dk.b,.int .i64 dk.bt,.slice I6 m6 e6]) rfl rfl (Blk.new w6 _ _) rfl log_size (all_one rfl) ?_;intro w7 Z7 gr7 sz7)
     have b67:Below w6.heap.size w6 w7:=below_grow ba gr7 (by simp) (Nat.le_refl _)
     replace Z:=Z.below' b67
     replace q6:=bstep q6 b67
     clear gr7 sz7 b67 ba hE hC hI6 D1
     go_wp2_with (refine wpList_store_blk rfl 67 _ _ rfl (cells:=#[.int .i64 0,.int .i64 0,.int .i64 0,.int .i64 0,.int .i64 0,.slice none 0 0,.int .i64 0,.slice none 0 0,.int .i64 0,.int .i64 0,.slice none 0 0]) rfl rfl Z rfl disk_size (all_one rfl) ?_;intro w9 Z9 gr9 sz9)
     have HP:=hide (show FoldPost RR w (.returned (.tuple #[.agg #[.int .i64 0,.int .i64 0,.int .i64 0,.int .i64 0,.int .i64 0,.slice none 0 0,.int .i64 0,.slice none 0 0,.int .i64 0,.int .i64 0,.slice none 0 0],.int .i64 ec])) w9 from ⟨fun h=>absurd (by rw [HQ3.out] at h;exact h) HEC.out,fun _=>by rw [HQ3.out],below_grow q6 gr9 q6.size (Nat.le_refl _)⟩)
     clear gr9 sz9 Z
     go_wp2_with fail
     have hlv:(loadVar 67 ⟨w.heap.size,0,none⟩).run Tryz.prog w9 = .ok (.agg #[.int .i64 0,.int .i64 0,.int .i64 0,.int .i64 0,.int .i64 0,.slice none 0 0,.int .i64 0,.slice none 0 0,.int .i64 0,.int .i64 0,.slice none 0 0]) w9:=run_loadVar_row w9 _ _ _ _ (0,0) _ Z9 Tryz.underlying67 rfl disk_size
     refine bodyPost_ret (v:=.tuple #[.agg #[.int .i64 0,.int .i64 0,.int .i64 0,.int .i64 0,.int .i64 0,.slice none 0 0,.int .i64 0,.slice none 0 0,.int .i64 0,.int .i64 0,.slice none 0 0],.int .i64 ec]) ?_ rfl HP.out
     simp only [results,Tryz.results20]
     simp [asAddr,Act.put,hlv]
   | load i t m=>
    obtain ⟨A6,n6,c6,B6,k6,d6,rfl,hE6,hC6⟩:=HREC.out
    replace Rk:Blk w5 wr.heap.size 45 #[.int .i64 3,.int .i64 0,.int .i64 0,.int .i64 0,.int .i64 0,.int .i64 0,.bool false,.int .i64 0,.int .i64 0,.int .i64 0,.string { data:=#[] },.string { data:=#[] },.string { data:=#[] },.int .i64 0,.int .i64 i,.int .i64 t,.int .i64 m.now,.slice A6 n6 c6,.int .i64 m.next,.slice B6 k6 d6]:=Rk
    replace hE6:=hE6.bl b35
    replace hC6:=hC6.bl b35
    have hin:=number_iff.1 HR1.out.1
    clear HQ b35
    by_cases hsi:dk.si<i
    ·have HQ2:=hide (show RR=foldG { dk with si:=i,st:=t,m:=m,b:=i,bt:=t,L:=restL dk.b dk.bt dk.L i t } (rs.drop (k+1)) by
      have h:=HQ'.out
      have e:stepD dk (.load i t m)=({ dk with si:=i,st:=t,m:=m,b:=i,bt:=t,L:=restL dk.b dk.bt dk.L i t },0):=by simp only [stepD];rw [if_pos hsi]
      rw [e] at h;exact h)
     have HOK2:=hide (show ({ dk with si:=i,st:=t,m:=m,b:=i,bt:=t,L:=restL dk.b dk.bt dk.L i t }:Dk).Ok by
      have h:=stepD_ok (r:=.load i t m) HOK.out HR1.out
      have e:stepD dk (.load i t m)=({ dk with si:=i,st:=t,m:=m,b:=i,bt:=t,L:=restL dk.b dk.bt dk.L i t },0):=by simp only [stepD];rw [if_pos hsi]
      rw [e] at h;exact h)
     have hlg:=log_good HOK.out.log
     have HRT:=hide (fun w' (b':Below w5.heap.size w5 w')=>rest_any dk.b dk.bt i t m.now m.next I1 A6 B6 m1 e1 n6 c6 k6 d6 dk.L w' ⟨by omega,by omega⟩ ⟨by omega,by omega⟩ (by omega) (by omega) (hI.bl b').sl HOK.out.log)
     generalize restL dk.b dk.bt dk.L i t=RL at *
     clear HQ' hlg HREC
     (try clear cRk fRk);have cRk:=Rk.cell;have fRk:=Rk.frozen;(try clear cD1 fD1);have cD1:=D1.cell;have fD1:=D1.frozen
     go_upto_region 18 with fail
     clear cRk fRk cD1 fD1
     have bd:Below w5.heap.size w5 w5.drew:=(Below.refl _ w5).drew
     refine wp_region_x (l:=[10]) (S:=fun w'=>w'.cell? ⟨wr.heap.size,14,none⟩=some (.int .i64 i)∧w'.cell? ⟨wr.heap.size,15,none⟩=some (.int .i64 t)∧w'.cell? ⟨wr.heap.size,16,none⟩=some (.int .i64 m.now)∧w'.cell? ⟨wr.heap.size,17,none⟩=some (.slice A6 n6 c6)∧w'.cell? ⟨wr.heap.size,18,none⟩=some (.int .i64 m.next)∧w'.cell? ⟨wr.heap.size,19,none⟩=some (.slice B6 k6 d6)∧w'.cell? ⟨gD,8,none⟩=some (.int .i64 dk.b)∧w'.cell? ⟨gD,9,none⟩=some (.int .i64 dk.bt)∧w'.cell? ⟨gD,10,none⟩=some (.slice I1 m1 e1)) (by kernel_rfl) ⟨Rk.drew.cell 14,Rk.drew.cell 15,Rk.drew.cell 16,Rk.drew.cell 17,Rk.drew.cell 18,Rk.drew.cell 19,D1.drew.cell 8,D1.drew.cell 9,D1.drew.cell 10⟩ (fun hS=>?_)
     replace Rk:=Rk.drew;replace Z:=Z.drew;replace D1:=D1.drew;replace hE6:=hE6.bl bd;replace hC6:=hC6.bl bd;replace q5:=q5.drew
     clear hE hC hI
     obtain ⟨wd,hwd⟩:∃ wd,wd=w5.drew:=⟨_,rfl⟩
     rw [←hwd] at hS Rk Z D1 hE6 hC6 q5 bd ⊢
     clear hwd
     refine wpAnyX_tq 0 ?_
     refine wpAnyX_tq 1 ?_
     refine wpAnyX_tq 2 ?_
     refine wpAnyX_tq 3 ?_
     refine wpAnyX_tq 4 ?_
     refine wpAnyX_tq 5 ?_
     refine wpAnyX_tq 7 ?_
     refine wpAnyX_oq 6 fun K hK=>?_
     go_wp2_with fail
     refine (HRT.out _ bd).mono ?_
     rintro e w6 ⟨I6,m6,e6,rfl,⟨BI,hI6⟩,b6⟩
     replace hI6:OI w6 I6 m6 e6 RL:=⟨BI,hI6⟩
     go_wp2_with fail
     replace Z:=Z.below' b6
     replace D1:=D1.below' b6
     replace Rk:=Rk.below' b6
     replace hE6:=hE6.bl b6
     replace hC6:=hC6.bl b6
     have q6:=bstep q5 b6
     refine hK.out _ _ (Or.inr ⟨Rk.cell 14,Rk.cell 15,Rk.cell 16,Rk.cell 17,Rk.cell 18,Rk.cell 19,D1.cell 8,D1.cell 9,D1.cell 10⟩) (fun hS=>?_)
     replace hS:=hS.resolve_left (by decide)
     clear hK K b6 bd HRT q5
     have HE7:=hide (disk_snap (.int .i64 i) (.int .i64 t) (.int .i64 m.now) (.slice A6 n6 c6) (.int .i64 m.next) (.slice B6 k6 d6) D1)
     have hg6:=D1.lt
     have hq6:=q6.size
     refine wpAnyX_oq 8 fun K hK=>?_
     (try clear cD1 fD1);have cD1:=D1.cell;have fD1:=D1.frozen
     go_wp2_with fail
     clear cD1 fD1
     have hne7:wr.heap.size≠gD:=by have:=HZG.out;omega
     refine hK.out _ _ (Or.inr ⟨(grown_blk Rk HE7.out.2.1 hne7).cell 14,(grown_blk Rk HE7.out.2.1 hne7).cell 15,(grown_blk Rk HE7.out.2.1 hne7).cell 16,(grown_blk Rk HE7.out.2.1 hne7).cell 17,(grown_blk Rk HE7.out.2.1 hne7).cell 18,(grown_blk Rk HE7.out.2.1 hne7).cell 19,HE7.out.1.cell 8,HE7.out.1.cell 9,HE7.out.1.cell 10⟩) (fun hS=>?_)
     replace hS:=hS.resolve_left (by decide)
     clear hK K
     obtain ⟨w7,hw7⟩:∃ w7,w7=(((((w6.setCell ⟨gD,2,none⟩ (.int .i64 i)).setCell ⟨gD,3,none⟩ (.int .i64 t)).setCell ⟨gD,4,none⟩ (.int .i64 m.now)).setCell ⟨gD,5,none⟩ (.slice A6 n6 c6)).setCell ⟨gD,6,none⟩ (.int .i64 m.next)).setCell ⟨gD,7,none⟩ (.slice B6 k6 d6):=⟨_,rfl⟩
     rw [←hw7] at hS HE7 ⊢
     clear hw7
     have Z7:=grown_blk Z HE7.out.2.1 (by have:=hzD.out;omega)
     have q7:=below_grow q6 HE7.out.2.1 q6.size (by have:=hzD.out;omega)
     have hE7:=hE6.grown D1 HE7.out.2.1
     have hC7:=hC6.grown D1 HE7.out.2.1
     have hI7:=hI6.grew D1 HE7.out.2.1
     have D7:=HE7.out.1
     clear HE7 D1 Z hE6 hC6 hI6 Rk
     have HE8:=hide (disk_log (.int .i64 i) (.int .i64 t) (.slice I6 m6 e6) D7)
     have hg7:=D7.lt
     refine wpAnyX_tq 9 ?_
     refine wpAnyX_oq 10 fun K hK=>?_
     (try clear cD7 fD7);have cD7:=D7.cell;have fD7:=D7.frozen
     go_wp2_with fail
     clear cD7 fD7
     refine hK.out _ _ (Or.inl (by decide)) (fun _=>?_)
     clear hK K
     refine wpAnyX_done (by kernel_rfl) ?_ _
     obtain ⟨w8,hw8⟩:∃ w8,w8=((w7.setCell ⟨gD,8,none⟩ (.int .i64 i)).setCell ⟨gD,9,none⟩ (.int .i64 t)).setCell ⟨gD,10,none⟩ (.slice I6 m6 e6):=⟨_,rfl⟩
     rw [←hw8] at HE8 ⊢
     clear hw8 hS
     have Z8:=grown_blk Z7 HE8.out.2.1 (by have:=hzD.out;omega)
     have q8:=below_grow q7 HE8.out.2.1 q7.size (by have:=hzD.out;omega)
     have DD:DkAt w8 gD { dk with si:=i,st:=t,m:=m,b:=i,bt:=t,L:=RL }:=⟨A6,n6,c6,B6,k6,d6,I6,m6,e6,HE8.out.1,hE7.grown D7 HE8.out.2.1,hC7.grown D7 HE8.out.2.1,hI7.grew D7 HE8.out.2.1⟩
     clear HE8 D7 Z7 hE7 hC7 hI7 hne7
     go_wp2_with fail
     go_roundw
     case rel=>exact ⟨k+1,{ dk with si:=i,st:=t,m:=m,b:=i,bt:=t,L:=RL },by omega,by go_num,Z8,DD,HQ2,HOK2,q8⟩
     case measure=>simp [intOf];omega
    ·have HQ2:=hide (show RR=foldG dk (rs.drop (k+1)) by
      have h:=HQ'.out
      have e:stepD dk (.load i t m)=(dk,0):=by simp only [stepD];rw [if_neg hsi]
      rw [e] at h;exact h)
     have DD:DkAt w5 gD dk:=⟨A1,n1,c1,B1,k1,d1,I1,m1,e1,D1,hE,hC,hI⟩
     clear HQ' HREC hE6 hC6 hE hC hI
     (try clear cRk fRk);have cRk:=Rk.cell;have fRk:=Rk.frozen;(try clear cD1 fD1);have cD1:=D1.cell;have fD1:=D1.frozen
     go_wp2_with fail
     go_roundw
     case rel=>exact ⟨k+1,dk,by omega,by go_num,Z,DD,HQ2,HOK,q5⟩
     case measure=>simp [intOf];omega
  ·obtain rfl:k=rs.length:=by omega
   have HQ2:=hide (foldG_end (Nat.le_refl _) HQ)
   obtain ⟨A1,n1,c1,B1,k1,d1,I1,m1,e1,D1,hE,hC,hI⟩:=D
   have HEN:=hide (Encode_own HOK.out.mach A1 B1 n1 c1 k1 d1 wr hE hC)
   have HDE:=hide (fun A n c w' (h:Sl w' 1 A n c (byteRows (encB dk.m)))=>Decode_any A n c (encB dk.m) w' h (u8s_mach HOK.out.mach))
   rw [decM_back HOK.out.mach] at HDE
   unfold DecMPost at HDE
   have hI1:=hI.len
   have hI2:=(log_good HOK.out.log).2.2.2.1
   have HCL:=hide (fun w' (h':OI w' I1 m1 e1 dk.L)=>Clone_item I1 m1 e1 (itemRows dk.L) w' h'.sl (item_one _) (by omega))
   clear HQ HRS hI1 hI2
   generalize encB dk.m=bs at *
   (try clear cD1 fD1);have cD1:=D1.cell;have fD1:=D1.frozen
   go_wp2_with fail
   refine HEN.out.mono ?_
   rintro e w6 ⟨A6,n6,c6,rfl,O6,b6⟩
   replace Z:=Z.below' b6
   replace D1:=D1.below' b6
   have q6:=bstep q b6
   clear cD1 fD1 hE hC HEN q
   go_wp2_with fail
   refine (HDE.out _ _ _ _ O6.sl').mono ?_
   rintro e w7 ⟨A7,n7,c7,B7,k7,d7,rfl,hE7,hC7,b7⟩
   replace Z:=Z.below' b7
   replace D1:=D1.below' b7
   have q7:=bstep q6 b7
   have b67:=bstep b6 b7
   have hg7:=D1.lt
   have HE8:=hide (disk_mach (.int .i64 dk.m.now) (.slice A7 n7 c7) (.int .i64 dk.m.next) (.slice B7 k7 d7) D1)
   clear b6 b7 O6 HDE q6
   (try clear cD1 fD1);have cD1:=D1.cell;have fD1:=D1.frozen
   go_upto_region 22 with fail
   clear cD1 fD1
   obtain ⟨w8,hw8⟩:∃ w8,w8=(((w7.setCell ⟨gD,4,none⟩ (.int .i64 dk.m.now)).setCell ⟨gD,5,none⟩ (.slice A7 n7 c7)).setCell ⟨gD,6,none⟩ (.int .i64 dk.m.next)).setCell ⟨gD,7,none⟩ (.slice B7 k7 d7):=⟨_,rfl⟩
   rw [←hw8] at HE8 ⊢
   clear hw8
   have Z8:=grown_blk Z HE8.out.2.1 (by have:=hzD.out;omega)
   have q8:=below_grow q7 HE8.out.2.1 q7.size (by have:=hzD.out;omega)
   have hE8:=hE7.grown D1 HE8.out.2.1
   have hC8:=hC7.grown D1 HE8.out.2.1
   have D8:=HE8.out.1
   have hI8:=(hI.bl b67).grew D1 HE8.out.2.1
   clear HE8 D1 Z hE7 hC7 hI b67 q7
   (try clear cD8 fD8);have cD8:=D8.cell;have fD8:=D8.frozen
   go_wp2_with fail
   refine (HCL.out _ hI8).mono ?_
   rintro e w9 ⟨v9,rfl,O9,b9⟩
   obtain ⟨I9,m9,e9,rfl⟩:=own_slice O9
   have Z9:=Z8.below' b9
   have D9:=D8.below' b9
   have hE9:=hE8.bl b9
   have hC9:=hC8.bl b9
   have q9:=bstep q8 b9
   have hg9:=D9.lt
   have HE10:=hide (one_step (w:=w9) (cs':=#[.int .i64 dk.term,.int .i64 dk.who,.int .i64 dk.si,.int .i64 dk.st,.int .i64 dk.m.now,.slice A7 n7 c7,.int .i64 dk.m.next,.slice B7 k7 d7,.int .i64 dk.b,.int .i64 dk.bt,.slice I9 m9 e9]) 10 (.slice I9 m9 e9) ⟨D9,grown_refl _ _,rfl⟩ rfl)
   clear b9 cD8 fD8 D8 Z8 hE8 hC8 hI8 q8 HCL
   (try clear cD9 fD9);have cD9:=D9.cell;have fD9:=D9.frozen
   go_upto_region 23 with fail
   obtain ⟨w10,hw10⟩:∃ w10,w10=w9.setCell ⟨gD,10,none⟩ (.slice I9 m9 e9):=⟨_,rfl⟩
   rw [←hw10] at HE10 ⊢
   clear hw10 cD9 fD9
   have Z10:=grown_blk Z9 HE10.out.2.1 (by have:=hzD.out;omega)
   have q10:=below_grow q9 HE10.out.2.1 q9.size (by have:=hzD.out;omega)
   have hE10:=hE9.grown D9 HE10.out.2.1
   have hC10:=hC9.grown D9 HE10.out.2.1
   have hI10:=OI.grew ⟨_,O9⟩ D9 HE10.out.2.1
   have D10:=HE10.out.1
   clear HE10 D9 Z9 hE9 hC9 O9 q9
   go_wp2_with (first|(refine wpList_load_blk rfl 67 _ rfl rfl D10 Tryz.underlying67 rfl disk_size ?_)|(refine wpList_store_blk rfl 67 _ _ rfl (cells:=#[.int .i64 dk.term,.int .i64 dk.who,.int .i64 dk.si,.int .i64 dk.st,.int .i64 dk.m.now,.slice A7 n7 c7,.int .i64 dk.m.next,.slice B7 k7 d7,.int .i64 dk.b,.int .i64 dk.bt,.slice I9 m9 e9]) rfl rfl Z10 rfl disk_size (all_one rfl) ?_;intro w11 Z11 gr11 sz11))
   have HP:=hide (show FoldPost RR w (.returned (.tuple #[.agg #[.int .i64 dk.term,.int .i64 dk.who,.int .i64 dk.si,.int .i64 dk.st,.int .i64 dk.m.now,.slice A7 n7 c7,.int .i64 dk.m.next,.slice B7 k7 d7,.int .i64 dk.b,.int .i64 dk.bt,.slice I9 m9 e9],.int .i64 0])) w11 from ⟨fun _=>by rw [HQ2.out];exact ⟨A7,n7,c7,B7,k7,d7,I9,m9,e9,rfl,hE10.grown Z10 gr11,hC10.grown Z10 gr11,hI10.grew Z10 gr11⟩,fun h=>absurd (by rw [HQ2.out]) h,below_grow q10 gr11 q10.size (Nat.le_refl _)⟩)
   clear gr11 sz11 D10 Z10 hE10 hC10 hI10
   go_wp2_with fail
   have hlv:(loadVar 67 ⟨w.heap.size,0,none⟩).run Tryz.prog w11 = .ok (.agg #[.int .i64 dk.term,.int .i64 dk.who,.int .i64 dk.si,.int .i64 dk.st,.int .i64 dk.m.now,.slice A7 n7 c7,.int .i64 dk.m.next,.slice B7 k7 d7,.int .i64 dk.b,.int .i64 dk.bt,.slice I9 m9 e9]) w11:=run_loadVar_row w11 _ _ _ _ (0,0) _ Z11 Tryz.underlying67 rfl disk_size
   refine bodyPost_ret (v:=.tuple #[.agg #[.int .i64 dk.term,.int .i64 dk.who,.int .i64 dk.si,.int .i64 dk.st,.int .i64 dk.m.now,.slice A7 n7 c7,.int .i64 dk.m.next,.slice B7 k7 d7,.int .i64 dk.b,.int .i64 dk.bt,.slice I9 m9 e9],.int .i64 0]) ?_ rfl HP.out
   simp only [results,Tryz.results20]
   simp [asAddr,Act.put,hlv]
end Go.Proofs.YtgmojjclobkpjaaGreatDoor

namespace Go.Proofs.YtgmojjclobkpjaaGreatDoor
set_option linter.all false
set_option maxHeartbeats 32000000
open Go.ChangeShapes Go.WideShapes Go.ChangeAt Go.RowKit
theorem rec_info:(Tryz.prog.info? 45).map (fun i=>(i.zero,i.size,i.bytes))=some (some (.agg #[.int .i64 0,.int .i64 0,.int .i64 0,.int .i64 0,.int .i64 0,.int .i64 0,.bool false,.int .i64 0,.int .i64 0,.int .i64 0,.string ByteArray.empty,.string ByteArray.empty,.string ByteArray.empty,.int .i64 0,.int .i64 0,.int .i64 0,.int .i64 0,.slice none 0 0,.int .i64 0,.slice none 0 0]),20,216):=by kernel_rfl
theorem RecAt.own {w w':World} {r:RK} {row:List Value} {B size:Nat} {v:Value} {rows:List (List Value)} (h:RecAt w r row) (ho:Own w B 45 size v rows) (hg:w.grownBy w' v.ownBlock):RecAt w' r row:=by
 rcases ho.form with ⟨rfl,_⟩|⟨g,cap,rfl,_,_,_,cur,h3,_⟩
 ·exact h.bl ((Below.refl _ _).grown hg (Nat.le_refl _) (fun k hk=>by simp [Value.ownBlock] at hk))
 ·exact h.grown h3 hg
def RowsAt (w:World) (rs:List RK) (rows:List (List Value)):Prop:=rows.length=rs.length∧∀ k (h:k<rs.length) (h':k<rows.length),RecAt w rs[k] rows[k]
theorem RowsAt.snoc {w:World} {rs:List RK} {rows:List (List Value)} {r:RK} {row:List Value} (h:RowsAt w rs rows) (hr:RecAt w r row):RowsAt w (rs ++ [r]) (rows ++ [row]):=by
 refine ⟨by simp [h.1],fun k a b=>?_⟩
 have hl:=h.1
 by_cases hk:k<rs.length
 ·rw [List.getElem_append_left hk,List.getElem_append_left (by omega)]
  exact h.2 k hk (by omega)
 ·have e:k=rs.length:=by simp at a;omega
  subst e
  simp only [List.getElem_concat_length,hl] at *
  exact hr
theorem RowsAt.keep {w w':World} {rs:List RK} {rows:List (List Value)} (h:RowsAt w rs rows) (hk:∀ r row,RecAt w r row→RecAt w' r row):RowsAt w' rs rows:=⟨h.1,fun k a b=>hk _ _ (h.2 k a b)⟩
theorem RowsAt.recs {w:World} {A:Option Addr} {n c:Nat} {rs:List RK} {rows:List (List Value)} (h:RowsAt w rs rows) (hs:Sl w 20 A n c rows):Recs w A n c rs rows:=⟨hs,h.1,h.2⟩
end Go.Proofs.YtgmojjclobkpjaaGreatDoor

namespace Go.Proofs.YtgmojjclobkpjaaGreatDoor
set_option linter.all false
set_option maxHeartbeats 32000000
open Go.ChangeShapes Go.WideShapes Go.ChangeAt Go.RowKit
theorem deed_info:(Tryz.prog.info? 62).map (fun i=>(i.zero,i.size,i.bytes))=some (some (.agg #[.int .i64 0,.int .i64 0,.int .i64 0,.int .i64 0,.int .i64 0,.int .i64 0,.int .i64 0,.string ByteArray.empty]),8,72):=by kernel_rfl
theorem deed_size:(Tryz.prog.info? 62).map (·.size)=some 8:=by kernel_rfl
theorem deed_one:∀ (l:List DeedD),∀ r∈deedRows l,∀ u∈r,u.oneCell'=true:=by
 intro l r hr u hu
 obtain ⟨x,_,rfl⟩:=List.mem_map.1 hr
 simp only [DeedD.cells,List.mem_cons,List.not_mem_nil,or_false] at hu
 rcases hu with rfl|rfl|rfl|rfl|rfl|rfl|rfl|rfl <;> rfl
def zeroDeed:DeedD:=⟨0,0,0,⟨0,0,0,0,emp⟩⟩
theorem zeroDeed_ok:zeroDeed.ok:=by
 unfold zeroDeed DeedD.ok RawD.ok I64 emp maxLen
 simp [ByteArray.size]
theorem deedRows_take (l:List DeedD) (k:Nat):(deedRows l).take k=deedRows (l.take k):=by simp [deedRows]
theorem deedRows_snoc (l:List DeedD) (x:DeedD):deedRows (l ++ [x])=deedRows l ++ [x.cells]:=by simp [deedRows]
def lineRows:Int→List Itm→List (List Value)
 | _,[]=>[]
 | i,x :: l=>lineCells i x :: lineRows (i+1) l
theorem lineRows_len:∀ (l:List Itm) (i:Int),(lineRows i l).length=l.length
 | [],_=>rfl
 | x :: l,i=>by simp [lineRows,lineRows_len l]
theorem lineRows_snoc:∀ (l:List Itm) (i:Int) (x:Itm),lineRows i (l ++ [x])=lineRows i l ++ [lineCells (i+l.length) x]
 | [],i,x=>by simp [lineRows]
 | y :: l,i,x=>by
  simp only [List.cons_append,lineRows,lineRows_snoc l (i+1) x,List.length_cons]
  rw [show i+1+(l.length:Int)=i+((l.length+1:Nat):Int) by omega]
theorem lineRows_at:∀ (l:List Itm) (i:Int) (k:Nat) (hk:k<l.length),(lineRows i l)[k]?=some (lineCells (i+k) l[k])
 | x :: l,i,0,_=>by simp [lineRows]
 | x :: l,i,k+1,hk=>by
  have:=lineRows_at l (i+1) k (by simpa using hk)
  simp only [lineRows,List.getElem?_cons_succ,this,List.getElem_cons_succ]
  congr 2;push_cast;omega
theorem lineRows_rec (w:World) (l:List Itm) (i:Int) (k:Nat) (h:k<(linesFrom i l).length) (h':k<(lineRows i l).length):RecAt w (linesFrom i l)[k] (lineRows i l)[k]:=by
 have hk:k<l.length:=by rw [←linesFrom_len l i];exact h
 have e1:=linesFrom_at l i k hk
 have e2:=lineRows_at l i k hk
 rw [List.getElem?_eq_getElem h] at e1
 rw [List.getElem?_eq_getElem h'] at e2
 injection e1 with e1
 injection e2 with e2
 rw [e1,e2]
 rfl
theorem lineRows_recs {w:World} {A:Option Addr} {n c:Nat} {l:List Itm} {i:Int} (h:Sl w 20 A n c (lineRows i l)):Recs w A n c (linesFrom i l) (lineRows i l):=
 ⟨h,by rw [lineRows_len,linesFrom_len],fun k h1 h2=>lineRows_rec w l i k h1 h2⟩
theorem linesFrom_ok:∀ (l:List Itm) (i:Int),1≤i→i+l.length≤1048577→(∀ x∈l,checkItem x=0)→∀ r∈linesFrom i l,r.Ok
 | [],_,_,_,_,r,h=>by cases h
 | x :: l,i,h1,h2,h3,r,h=>by
  simp only [List.length_cons] at h2
  rcases List.mem_cons.1 h with rfl|h
  ·exact ⟨number_iff.2 ⟨h1,by push_cast at h2;omega⟩,h3 x (by simp)⟩
  ·exact linesFrom_ok l (i+1) (by omega) (by push_cast at h2;omega) (fun y hy=>h3 y (by simp [hy])) r h
theorem chain_each:∀ (l:List Itm) (t m:Int),chainOk t m l=true→∀ x∈l,checkItem x=0
 | [],_,_,_,x,h=>by cases h
 | y :: l,t,m,h,x,hx=>by
  obtain ⟨h1,_,_,h4⟩:=chain_head h
  rcases List.mem_cons.1 hx with rfl|hx
  ·exact h1
  ·exact chain_each l _ _ h4 x hx
theorem items_good (l:List DeedD):checkLog 0 0 (itemsOf l 1)=0:=by
 have hl:=itemsOf_length l 1
 have:chainOk 0 0 (itemsOf l 1)=true:=chain_items _ _ _ _ _ (by omega) (by omega) (by omega) (by simp;omega) (by omega) (by simp;omega)
 exact checkLog_ok (by omega) (by omega) (by omega) (by simp) (by omega) (by omega) this
theorem rec_infoL:(Tryz.prog.info? 45).map (fun i=>(i.zero,i.size,i.bytes))=some (some (.agg #[.int .i64 0,.int .i64 0,.int .i64 0,.int .i64 0,.int .i64 0,.int .i64 0,.bool false,.int .i64 0,.int .i64 0,.int .i64 0,.string ByteArray.empty,.string ByteArray.empty,.string ByteArray.empty,.int .i64 0,.int .i64 0,.int .i64 0,.int .i64 0,.slice none 0 0,.int .i64 0,.slice none 0 0]),20,216):=by kernel_rfl
end Go.Proofs.YtgmojjclobkpjaaGreatDoor


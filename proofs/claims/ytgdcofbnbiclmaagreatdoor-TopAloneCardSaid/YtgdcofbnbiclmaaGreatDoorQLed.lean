import Derived.Test.YtgdcofbnbiclmaaGreatDoorQCall
import Derived.Test.YtgdcofbnbiclmaaGreatDoorQOwn
import Derived.Deep.QuietTactic
import Derived.BigQuiet
namespace Go.Proofs.YtgdcofbnbiclmaaGreatDoor
set_option linter.all false
set_option maxHeartbeats 32000000
open Go.RowKit
theorem item_info:(Tryz.prog.info? 67).map (fun i=>(i.zero,i.size,i.bytes))=some (some (.agg #[.int .i64 0,.int .i64 0,.bool false,.int .i64 0,.int .i64 0,.int .i64 0,.string ByteArray.empty,.string ByteArray.empty,.string ByteArray.empty,.int .i64 0]),10,104):=by kernel_rfl
structure ItemAt (w:World) (b o:Nat) (x:Itm):Prop where
 c0:w.cell? ⟨b,o,none⟩=some (.int .i64 x.term)
 c1:w.cell? ⟨b,o+1,none⟩=some (.int .i64 x.time)
 c2:w.cell? ⟨b,o+2,none⟩=some (.bool x.nop)
 c3:w.cell? ⟨b,o+3,none⟩=some (.int .i64 x.client)
 c4:w.cell? ⟨b,o+4,none⟩=some (.int .i64 x.seq)
 c5:w.cell? ⟨b,o+5,none⟩=some (.int .i64 x.cmd.kind)
 c6:w.cell? ⟨b,o+6,none⟩=some (.string x.cmd.key)
 c7:w.cell? ⟨b,o+7,none⟩=some (.string x.cmd.field)
 c8:w.cell? ⟨b,o+8,none⟩=some (.string x.cmd.text)
 c9:w.cell? ⟨b,o+9,none⟩=some (.int .i64 x.cmd.n)
def itemRows (l:List Itm):List (List Value):=l.map Itm.cells
theorem Sl.item {w:World} {A:Option Addr} {n c:Nat} {l:List Itm} (h:Sl w 10 A n c (itemRows l)) {k:Nat} (hk:k<l.length) :
  ∃ b off,A=some ⟨b,off,none⟩∧b<w.heap.size∧ItemAt w b (off+k*10) l[k]:=by
 obtain ⟨b,off,e,hb,hc⟩:=h.seg.at_ (i:=k) (by simpa [itemRows] using hk)
 have hc':∀ j u,l[k].cells[j]?=some u→w.cell? ⟨b,off+k*10+j,none⟩=some u:=by
  intro j u hu
  rw [Nat.add_assoc]
  exact hc j u (by simpa [itemRows] using hu)
 exact ⟨b,off,e,hb,hc' 0 _ rfl,hc' 1 _ rfl,hc' 2 _ rfl,hc' 3 _ rfl,hc' 4 _ rfl,hc' 5 _ rfl,hc' 6 _ rfl,hc' 7 _ rfl,hc' 8 _ rfl,hc' 9 _ rfl⟩
theorem item_cells_one (x:Itm):∀ u∈x.cells,u.oneCell'=true:=by
 intro u hu
 simp only [Itm.cells,List.mem_cons,List.not_mem_nil,or_false] at hu
 rcases hu with rfl|rfl|rfl|rfl|rfl|rfl|rfl|rfl|rfl|rfl <;> rfl
theorem item_one:∀ (l:List Itm),∀ r∈itemRows l,∀ u∈r,u.oneCell'=true:=by
 intro l r hr u hu
 obtain ⟨x,_,rfl⟩:=List.mem_map.1 hr
 simp only [Itm.cells,List.mem_cons,List.not_mem_nil,or_false] at hu
 rcases hu with rfl|rfl|rfl|rfl|rfl|rfl|rfl|rfl|rfl|rfl <;> rfl
theorem Clone_item (A:Option Addr) (n c:Nat) (rows:List (List Value)) (w:World) (h:Sl w 10 A n c rows) (h1:∀ r∈rows,∀ u∈r,u.oneCell'=true) (hb:n*104≤140737488355328) :
  Calls Tryz.prog 53 #[.slice A n c] w fun e w'=>∃ v,e = .returned v∧Own w' w.heap.size 67 10 v rows∧Below w.heap.size w w':=by
 have hS:=h
 obtain ⟨hl,hnc,hcm,hn0,hs,hr⟩:=h
 have hq:=fun w=>Lib.run_eql_slice_nil (P:=Tryz.prog) w 41 67 A n c 0 0 Tryz.underlying41
 cases A with
 | none=>
  obtain rfl:=hn0 rfl
  obtain rfl:n=0:=by omega
  obtain rfl:=List.eq_nil_of_length_eq_zero hl
  go_enter Tryz.func53,Tryz.ntmps53
  go_wp2_with fail
  go_ret
  exact ⟨_,rfl,Own.nil,below_by⟩
 | some a=>
  by_cases hn:n=0
  ·subst hn
   obtain rfl:=List.eq_nil_of_length_eq_zero hl
   go_enter Tryz.func53,Tryz.ntmps53
   go_wp2_with fail
   go_ret
   exact ⟨_,rfl,Own.empty _ _ _ (Nat.le_refl _),below_by⟩
  ·go_enter Tryz.func53,Tryz.ntmps53
   go_wp2_with (at_builtin;refine wpList_grow rfl _ _ _ rfl Tryz.underlying41 item_info rfl (by decide) (rows:=[]) rfl rfl (by simp) Seg.nil (by simp) rfl hl hr (hs.alloc _) h1 (by omega) (by omega) (by rw [Nat.zero_add];omega) (by omega) ?_;intro v' w1 hown hb1)
   go_ret
   exact ⟨_,rfl,by simpa using hown.mono (by simp),bstep below_by hb1⟩
def Itm.zero (x:Itm):Bool:=x.client == 0 && zeroCall x.seq x.cmd.kind x.cmd.key x.cmd.field x.cmd.text x.cmd.n
def checkItem (x:Itm):Int:=
 if x.term<1∨1048576<x.term∨x.time<0∨1073741824<x.time then 2
 else if x.nop=true then (if x.zero=true then 0 else 8)
 else checkCall x.client x.seq x.cmd.kind x.cmd.key x.cmd.field x.cmd.text x.cmd.n
theorem CheckItem_any (x:Itm) (w:World) :
  Calls Tryz.prog 55 #[.agg #[.int .i64 x.term,.int .i64 x.time,.bool x.nop,.int .i64 x.client,.int .i64 x.seq,.int .i64 x.cmd.kind,.string x.cmd.key,.string x.cmd.field,.string x.cmd.text,.int .i64 x.cmd.n]] w
   fun e w'=>e = .returned (.int .i64 (checkItem x))∧Below w.heap.size w w':=by
 obtain ⟨term,time,nop,client,seq,⟨kind,key,field,text,n⟩⟩:=x
 cases nop
 all_goals
  go_enter Tryz.func55,Tryz.ntmps55
  go_wp2_with (go_at_call 57;refine (CheckCall_any _ _ _ _ _ _ _ _).mono ?_;rintro e w1 ⟨rfl,hb1⟩)
  all_goals go_ret
  all_goals refine ⟨ret_int ?_,below_by⟩
  all_goals (unfold checkItem Itm.zero zeroCall;simp_all <;> omega)
def chainOk:Int→Int→List Itm→Bool
 | _,_,[]=>true
 | t,m,x :: l=>checkItem x == 0 && !decide (x.term<t) && !decide (x.time<m) && chainOk x.term x.time l
def headBad (base bt:Int) (n:Nat):Bool:=
 decide (base<0) || decide (bt<0) || decide (1048576<bt) || ((base == 0) != (bt == 0)) || decide (200<(n:Int)) || decide (1048576 - (n:Int)<base)
def checkLog (base bt:Int) (l:List Itm):Int:=if headBad base bt l.length=true then 13 else if chainOk bt 0 l=true then 0 else 13
theorem chain_step {bt t m:Int} {l:List Itm} {k:Nat} (hk:k<l.length) (h:Hid (chainOk bt 0 l=chainOk t m (l.drop k))) :
  Hid (chainOk bt 0 l=(checkItem l[k] == 0 && !decide (l[k].term<t) && !decide (l[k].time<m) && chainOk l[k].term l[k].time (l.drop (k+1)))):=by
 have:=h.out
 rw [List.drop_eq_getElem_cons hk] at this
 exact this
theorem chain_rel {bt t m:Int} {l r:List Itm} {x:Itm} (h:Hid (chainOk bt 0 l=(checkItem x == 0 && !decide (x.term<t) && !decide (x.time<m) && chainOk x.term x.time r))) (h1:checkItem x=0) (h2:t≤x.term) (h3:m≤x.time) :
  Hid (chainOk bt 0 l=chainOk x.term x.time r):=by
 have h2:¬ x.term<t:=by omega
 have h3:¬ x.time<m:=by omega
 have:=h.out
 show chainOk bt 0 l=_
 simpa [h1,h2,h3] using this
theorem Check_any (base bt:Int) (A:Option Addr) (n c:Nat) (l:List Itm) (w:World) (hb1:I64 base) (hb2:I64 bt) (h:Sl w 10 A n c (itemRows l)) :
  Calls Tryz.prog 38 #[.agg #[.int .i64 base,.int .i64 bt,.slice A n c]] w fun e w'=>e = .returned (.int .i64 (checkLog base bt l))∧Below w.heap.size w w':=by
 obtain ⟨b1,b2⟩:=hb1
 obtain ⟨t1,t2⟩:=hb2
 have hn:n=l.length:=by have:=h.len;simp [itemRows] at this;omega
 subst hn
 have hlm:=h.nc
 have hlm':=h.cm
 unfold maxLen at hlm'
 by_cases hbad:headBad base bt l.length=true
 ·have HB:=hide hbad
  clear hbad
  go_enter Tryz.func38,Tryz.ntmps38
  go_wp2_with fail
  all_goals first
   | (exfalso;have:=HB.out;simp [headBad] at this;simp_all;omega)
   | (go_ret;refine ⟨ret_int ?_,below_by⟩;unfold checkLog;rw [if_pos HB.out])
 ·have hgood:headBad base bt l.length=false:=by simpa using hbad
  clear hbad
  have HB:=hide hgood
  simp only [headBad,Bool.or_eq_false_iff,decide_eq_false_iff_not,bne_eq_false_iff_eq] at hgood
  obtain ⟨⟨⟨⟨⟨g1,g2⟩,g3⟩,g4⟩,g5⟩,g6⟩:=hgood
  have g1:0≤base:=by omega
  have g2:0≤bt:=by omega
  have g3:bt≤1048576:=by omega
  have g5:(l.length:Int)≤200:=by omega
  have g6:base≤1048576 - (l.length:Int):=by omega
  have hcases:(base=0∧bt=0)∨((base == 0)=false∧(bt == 0)=false):=by
   by_cases h0:base=0
   ·subst h0;left;simp at g4;exact ⟨rfl,g4⟩
   ·right;have:(base == 0)=false:=by simpa using h0
    exact ⟨this,by rw [←g4,this]⟩
  clear g4
  rcases hcases with ⟨rfl,rfl⟩|⟨z1,z2⟩
  all_goals
   go_enter Tryz.func38,Tryz.ntmps38
   go_wp2_with fail
   go_loopw [3,4,49] (fun s3 s4 i wr=>∃ k:Nat,k≤l.length∧i = .int .i64 k∧∃ t m:Int,s3 = .int .i64 t∧s4 = .int .i64 m∧Hid (chainOk _ 0 l=chainOk t m (l.drop k))∧Below w.heap.size w wr)
    (fun _ _ i _=>l.length - (intOf i).toNat)
   case atStart=>exact ⟨0,by omega,rfl,_,_,rfl,rfl,rfl,below_by⟩
   case round=>
    obtain ⟨k,hk,rfl,t,m,rfl,rfl,HQ,hbr⟩:=hrel
    by_cases hlt:k<l.length
    ·obtain ⟨b,off,rfl,hbb,⟨i0,i1,i2,i3,i4,i5,i6,i7,i8,i9⟩⟩:=(h.below hbr).item hlt
     have HQ':=chain_step hlt HQ
     generalize l[k]=x at i0 i1 i2 i3 i4 i5 i6 i7 i8 i9 HQ'
     go_wp2_with (go_at_call 55;refine (CheckItem_any x _).mono ?_;rintro e w1 ⟨rfl,hb1⟩;obtain ⟨hc1,hf1⟩:=bcell hb1;have hz:=hb1.size;simp at hz)
     all_goals first
      | (go_ret;refine ⟨ret_int ?_,below_by⟩;unfold checkLog;rw [HB.out,HQ'.out];simp_all <;> omega)
      | (go_quiet (fail)
         go_wp2_with fail
         go_roundw
         case rel=>exact ⟨k+1,by omega,by go_num,_,_,rfl,rfl,chain_rel HQ' (by omega) (by omega) (by omega),below_by⟩
         case measure=>simp [intOf];omega)
    ·obtain rfl:k=l.length:=by omega
     go_wp2_with fail
     go_ret
     refine ⟨ret_int ?_,below_by⟩
     unfold checkLog
     rw [HB.out,HQ.out]
     simp [chainOk]
theorem log_good {base bt:Int} {l:List Itm} (h:checkLog base bt l=0):0≤base∧0≤bt∧bt≤1048576∧l.length≤200∧base+l.length≤1048576∧(base=0 ↔ bt=0)∧chainOk bt 0 l=true:=by
 unfold checkLog at h
 split at h
 ·cases h
 ·rename_i hb
  split at h
  ·rename_i hc
   have hb:headBad base bt l.length=false:=by simpa using hb
   simp only [headBad,Bool.or_eq_false_iff,decide_eq_false_iff_not,bne_eq_false_iff_eq] at hb
   obtain ⟨⟨⟨⟨⟨g1,g2⟩,g3⟩,g4⟩,g5⟩,g6⟩:=hb
   refine ⟨by omega,by omega,by omega,by omega,by omega,?_,hc⟩
   rw [Bool.eq_iff_iff] at g4
   simpa using g4
  ·cases h
theorem rows_len {w:World} {A:Option Addr} {n c:Nat} {l:List Itm} (h:Sl w 10 A n c (itemRows l)):l.length=n:=by have:=h.len;simpa [itemRows] using this
def lastOf (base bt:Int) (l:List Itm):Int×Int:=match l.getLast? with|some x=>(base+l.length,x.term)|none=>(base,bt)
theorem lastOf_nil (base bt:Int):lastOf base bt []=(base,bt):=rfl
theorem lastOf_pos {base bt:Int} {l:List Itm} (h:0<l.length):lastOf base bt l=(base+l.length,(l[l.length - 1]'(by omega)).term):=by
 unfold lastOf
 rw [List.getLast?_eq_getElem?,List.getElem?_eq_getElem (by omega)]
theorem last_any (base bt:Int) (A:Option Addr) (n c:Nat) (l:List Itm) (w:World) (hb1:0≤base) (hb2:base≤1048576) (hl:l.length≤200) (h:Sl w 10 A n c (itemRows l)) :
  Calls Tryz.prog 43 #[.agg #[.int .i64 base,.int .i64 bt,.slice A n c]] w fun e w'=>e = .returned (.tuple #[.int .i64 (lastOf base bt l).1,.int .i64 (lastOf base bt l).2])∧Below w.heap.size w w':=by
 have hn:=rows_len h
 subst hn
 have hlm:=h.nc
 by_cases h0:l=[]
 ·subst h0
  rw [lastOf_nil]
  go_enter Tryz.func43,Tryz.ntmps43
  go_wp2_with fail
  go_quiet (fail)
  go_wp2_with fail
  go_ret2
  exact ⟨rfl,below_by⟩
 ·have hp:0<l.length:=List.length_pos_iff.2 h0
  obtain ⟨b,off,rfl,hbb,⟨i0,_,_,_,_,_,_,_,_,_⟩⟩:=h.item (k:=l.length - 1) (by omega)
  rw [lastOf_pos hp]
  generalize l[l.length - 1]'(by omega)=x at i0
  have hp':(0:Int)<(l.length:Int):=by omega
  have i0':=(World.cell?_alloc_lt w (.cells #[.int .i64 base,.int .i64 bt,.slice (some ⟨b,off,none⟩) l.length c] 43) ⟨b,off+(l.length - 1)*10,none⟩ hbb).trans i0
  go_enter Tryz.func43,Tryz.ntmps43
  go_wp2_with fail
  go_quiet (fail)
  go_wp2_with fail
  go_ret2
  exact ⟨rfl,below_by⟩
def termOf (base bt:Int) (l:List Itm) (place:Int):Int×Int:=
 if place<base then (0,11) else if place=base then (bt,0) else if (l.length:Int)<place - base then (0,5)
 else (match l[(place - base - 1).toNat]? with|some x=>x.term|none=>0,0)
theorem termOf_lt {base bt:Int} {l:List Itm} {place:Int} (h:place<base):termOf base bt l place=(0,11):=by unfold termOf;rw [if_pos h]
theorem termOf_eq {base bt:Int} {l:List Itm}:termOf base bt l base=(bt,0):=by unfold termOf;rw [if_neg (by omega),if_pos rfl]
theorem termOf_gt {base bt:Int} {l:List Itm} {place:Int} (h:base<place) (h2:(l.length:Int)<place - base):termOf base bt l place=(0,5):=by
 unfold termOf;rw [if_neg (by omega),if_neg (by omega),if_pos h2]
theorem termOf_at {base bt:Int} {l:List Itm} {k:Nat} (hk:k<l.length):termOf base bt l (base+1+k)=(l[k].term,0):=by
 unfold termOf
 rw [if_neg (by omega),if_neg (by omega),if_neg (by omega),show (base+1+(k:Int) - base - 1).toNat=k by omega,List.getElem?_eq_getElem hk]
theorem term_any (base bt:Int) (A:Option Addr) (n c:Nat) (l:List Itm) (place:Int) (w:World) (hb1:0≤base) (hb2:base≤1048576) (hl:l.length≤200) (hp:I64 place) (h:Sl w 10 A n c (itemRows l)) :
  Calls Tryz.prog 164 #[.agg #[.int .i64 base,.int .i64 bt,.slice A n c],.int .i64 place] w fun e w'=>e = .returned (.tuple #[.int .i64 (termOf base bt l place).1,.int .i64 (termOf base bt l place).2])∧Below w.heap.size w w':=by
 have hn:=rows_len h
 subst hn
 have hlm:=h.nc
 obtain ⟨hp1,hp2⟩:=hp
 by_cases h1:place<base
 ·rw [termOf_lt h1]
  go_enter Tryz.func164,Tryz.ntmps164
  go_wp2_with fail
  go_ret2
  exact ⟨rfl,below_by⟩
 by_cases h2:place=base
 ·subst h2
  rw [termOf_eq]
  go_enter Tryz.func164,Tryz.ntmps164
  go_wp2_with fail
  go_ret2
  exact ⟨rfl,below_by⟩
 have h2':(place == base)=false:=by simpa using h2
 by_cases h3:(l.length:Int)<place - base
 ·rw [termOf_gt (by omega) h3]
  go_enter Tryz.func164,Tryz.ntmps164
  go_wp2_with fail
  go_ret2
  exact ⟨rfl,below_by⟩
 ·obtain ⟨k,rfl⟩:∃ k:Nat,place=base+1+k:=⟨(place - base - 1).toNat,by omega⟩
  have hk:k<l.length:=by omega
  obtain ⟨b,off,rfl,hbb,⟨i0,_,_,_,_,_,_,_,_,_⟩⟩:=h.item hk
  rw [termOf_at hk]
  generalize l[k]=x at i0
  have i0':=(World.cell?_alloc_lt w (.cells #[.int .i64 base,.int .i64 bt,.slice (some ⟨b,off,none⟩) l.length c] 43) ⟨b,off+k*10,none⟩ hbb).trans i0
  have e1:base+1+(k:Int) - base=k+1:=by omega
  go_enter Tryz.func164,Tryz.ntmps164
  go_wp2_with fail
  go_ret2
  exact ⟨rfl,below_by⟩
theorem Last_any (base bt:Int) (A:Option Addr) (n c:Nat) (l:List Itm) (w:World) (hb1:I64 base) (hb2:I64 bt) (h:Sl w 10 A n c (itemRows l)) (hg:checkLog base bt l=0) :
  Calls Tryz.prog 26 #[.agg #[.int .i64 base,.int .i64 bt,.slice A n c]] w fun e w'=>e = .returned (.tuple #[.int .i64 (lastOf base bt l).1,.int .i64 (lastOf base bt l).2,.int .i64 0])∧Below w.heap.size w w':=by
 have hgg:=log_good hg
 go_enter Tryz.func26,Tryz.ntmps26
 go_wp2_with fail
 refine (Check_any _ _ _ _ _ l _ hb1 hb2 (h.alloc _)).mono ?_
 rintro e w1 ⟨rfl,hb1⟩
 obtain ⟨hc1,hf1⟩:=bcell hb1
 have hz:=hb1.size
 simp at hz
 go_wp2_with fail
 refine (last_any _ _ _ _ _ l _ hgg.1 (by omega) hgg.2.2.2.1 ((h.alloc _).below hb1)).mono ?_
 rintro e w2 ⟨rfl,hb2⟩
 go_wp2_with fail
 go_ret3
 exact ⟨rfl,below_by⟩
def newerB (base bt:Int) (l:List Itm) (place of:Int):Bool:=decide ((lastOf base bt l).2<of) || (of == (lastOf base bt l).2 && decide ((lastOf base bt l).1≤place))
def termE (base bt:Int) (l:List Itm) (place:Int):Int×Int:=if place<0∨1048576<place then (0,2) else termOf base bt l place
theorem Term_any (base bt:Int) (A:Option Addr) (n c:Nat) (l:List Itm) (place:Int) (w:World) (hb1:I64 base) (hb2:I64 bt) (hp:I64 place) (h:Sl w 10 A n c (itemRows l)) (hg:checkLog base bt l=0) :
  Calls Tryz.prog 132 #[.agg #[.int .i64 base,.int .i64 bt,.slice A n c],.int .i64 place] w fun e w'=>e = .returned (.tuple #[.int .i64 (termE base bt l place).1,.int .i64 (termE base bt l place).2])∧Below w.heap.size w w':=by
 have hgg:=log_good hg
 by_cases hpl:place<0∨1048576<place
 ·have hD:termE base bt l place=(0,2):=by unfold termE;rw [if_pos hpl]
  rw [hD]
  go_enter Tryz.func132,Tryz.ntmps132
  go_wp2_with fail
  refine (Check_any _ _ _ _ _ l _ hb1 hb2 (h.alloc _)).mono ?_
  rintro e w1 ⟨rfl,hb1⟩
  go_wp2_with fail
  all_goals go_ret2
  all_goals exact ⟨rfl,below_by⟩
 ·have hD:termE base bt l place=termOf base bt l place:=by unfold termE;rw [if_neg hpl]
  rw [hD]
  have hp1:0≤place:=by omega
  have hp2:place≤1048576:=by omega
  go_enter Tryz.func132,Tryz.ntmps132
  go_wp2_with fail
  refine (Check_any _ _ _ _ _ l _ hb1 hb2 (h.alloc _)).mono ?_
  rintro e w1 ⟨rfl,hb1⟩
  obtain ⟨hc1,hf1⟩:=bcell hb1
  have hz:=hb1.size
  simp at hz
  go_wp2_with fail
  refine (term_any _ _ _ _ _ l _ _ hgg.1 (by omega) hgg.2.2.2.1 hp ((h.alloc _).below hb1)).mono ?_
  rintro e w2 ⟨rfl,hb2⟩
  go_wp2_with fail
  go_ret2
  exact ⟨rfl,below_by⟩
theorem item_size:(Tryz.prog.info? 67).map (·.size)=some 10:=by kernel_rfl
theorem itemRows_drop (l:List Itm) (k:Nat):(itemRows l).drop k=itemRows (l.drop k):=by simp [itemRows]
theorem itemRows_take (l:List Itm) (k:Nat):(itemRows l).take k=itemRows (l.take k):=by simp [itemRows]
theorem termOf_in {base bt:Int} {l:List Itm} {k:Nat} (hk:k≤l.length):(termOf base bt l (base+k)).2=0:=by
 cases k with
 | zero=>rw [show base+((0:Nat):Int)=base by simp,termOf_eq]
 | succ k=>rw [show base+((k+1:Nat):Int)=base+1+k by omega,termOf_at (by omega)]
theorem Trim_ok (base bt:Int) (A:Option Addr) (n c:Nat) (l:List Itm) (k:Nat) (w:World) (hb1:I64 base) (hb2:I64 bt) (hS:Sl w 10 A n c (itemRows l)) (hg:checkLog base bt l=0)
  (hk:k≤l.length) :
  Calls Tryz.prog 138 #[.agg #[.int .i64 base,.int .i64 bt,.slice A n c],.int .i64 (base+k)] w fun e w'=>∃ v,e = .returned (.tuple #[.agg #[.int .i64 (base+k),.int .i64 (termOf base bt l (base+k)).1,v],.int .i64 0]) ∧
   Own w' w.heap.size 67 10 v (itemRows (l.drop k))∧Below w.heap.size w w':=by
 have hgg:=log_good hg
 have hn:=rows_len hS
 subst hn
 have hlm:=hS.nc
 have hT:=termOf_in (base:=base) (bt:=bt) hk
 generalize hT':termOf base bt l (base+k)=T at *
 obtain ⟨tt,te⟩:=T
 have hT1:=fun w (h:Sl w 10 A l.length c (itemRows l))=>term_any base bt A _ c l (base+k) w hgg.1 (by omega) hgg.2.2.2.1 ⟨by omega,by omega⟩ h
 rw [hT'] at hT1
 simp only at hT
 subst hT
 have HT:=hide hT1;clear hT1 hT'
 obtain ⟨g1,g2,g3,g4,g5,_,_⟩:=hgg
 have e1:base+(k:Int) - base=k:=by omega
 have s1:=run_cut Tryz.underlying41 item_size A l.length c k hk
 simp only
 go_enter Tryz.func138,Tryz.ntmps138
 go_wp2_with fail
 refine (Check_any _ _ _ _ _ l _ hb1 hb2 ((hS.alloc _).alloc _)).mono ?_
 rintro e w1 ⟨rfl,hb1⟩
 obtain ⟨hc1,hf1⟩:=bcell hb1
 have hz:=hb1.size
 simp at hz
 have hz1:w.heap.size<w1.heap.size:=by omega
 have hz1':w.heap.size+1<w1.heap.size:=by omega
 go_wp2_with fail
 refine (HT.out _ (((hS.alloc _).alloc _).below hb1)).mono ?_
 rintro e w2 ⟨rfl,hb2⟩
 obtain ⟨hc2,hf2⟩:=bcell hb2
 have hz2:=hb2.size
 have hz2':w.heap.size+1<w2.heap.size:=by omega
 have hz3:w.heap.size<w2.heap.size:=by omega
 go_wp2_with fail
 have hS2:=((((hS.alloc (.cells #[.int .i64 base,.int .i64 bt,.slice A l.length c] 43)).alloc (.cells #[.int .i64 0,.int .i64 0,.slice none 0 0] 43)).below hb1).below hb2).drop k hk c (Nat.le_refl _) hlm
 rw [itemRows_drop] at hS2
 refine (Clone_item _ _ _ _ _ hS2 (item_one _) (by omega)).mono ?_
 rintro e w3 ⟨v,rfl,hown,hb3⟩
 obtain ⟨hc3,hf3⟩:=bcell hb3
 have hz4:w.heap.size+1<w3.heap.size:=by have:=hb3.size;omega
 have hsl:=hown.sl
 obtain ⟨A',c',rfl,_⟩:=hsl
 go_wp2_with fail
 refine bodyPost_ret (v:=.tuple #[.agg #[.int .i64 (base+k),.int .i64 tt,.slice A' (itemRows (l.drop k)).length c'],.int .i64 0]) ?_ rfl ⟨_,rfl,?_,below_by⟩
 ·simp [results,Tryz.results138,go_sem, *]
 ·exact (((hown.setCell (by simpa using hz2') _).setCell (by simpa using hz2') _).setCell (by simpa using hz2') _).mono (by omega)
def itemAt (d:DeedD) (t m:Int):Itm:={ itemOf d 0 0 with term:=t,time:=m }
def itemsGo:Int→Int→List DeedD→List Itm
 | _,_,[]=>[]
 | t,m,d :: l=>itemAt d (t+picked d.off 4 / 3) (m+picked d.wait 3) :: itemsGo (t+picked d.off 4 / 3) (m+picked d.wait 3) l
theorem itemRows_length (l:List Itm):(itemRows l).length=l.length:=by simp [itemRows]
theorem zeroCmd_call:zeroCall 0 zeroCmd.kind zeroCmd.key zeroCmd.field zeroCmd.text zeroCmd.n=true:=by
 simp [zeroCall,zeroCmd,emp_list]
theorem check_itemAt (d:DeedD) (t m:Int) (h1:1≤t) (h2:t≤1048576) (h3:0≤m) (h4:m≤1073741824):checkItem (itemAt d t m)=0:=by
 have c1:=picked_lo d.client 50 (by omega)
 have c2:=picked_hi d.client 50 (by omega)
 have o1:=picked_lo d.off 100 (by omega)
 have o2:=picked_hi d.off 100 (by omega)
 unfold itemAt itemOf
 split
 ·unfold checkItem
  rw [if_neg (by simp;omega)]
  simp [Itm.zero,zeroCmd_call]
 ·split
  ·unfold checkItem
   rw [if_neg (by simp;omega)]
   simp [checkCall,zeroCmd_call]
  ·unfold checkItem
   rw [if_neg (by simp;omega)]
   simp only [Bool.false_eq_true,if_false]
   unfold checkCall
   rw [if_neg (by simp;omega),if_neg (by simp [numberOk];omega)]
   exact cmd_ok _ _ _ _ _
theorem chain_items:∀ (l:List DeedD) (bt tm t m:Int),bt≤t→tm≤m→1≤t→t+l.length≤1048576→0≤m→m+2*l.length≤1073741824→chainOk bt tm (itemsGo t m l)=true
 | [],_,_,_,_,_,_,_,_,_,_=>rfl
 | d :: l,bt,tm,t,m,h1,h2,h3,h4,h5,h6=>by
  have o1:=picked_lo d.off 4 (by omega)
  have o2:=picked_hi d.off 4 (by omega)
  have q1:=picked_lo d.wait 3 (by omega)
  have q2:=picked_hi d.wait 3 (by omega)
  simp only [List.length_cons] at h4 h6
  simp only [itemsGo,chainOk,Bool.and_eq_true,Bool.not_eq_true',decide_eq_false_iff_not,beq_iff_eq]
  have e1:(itemAt d (t+picked d.off 4 / 3) (m+picked d.wait 3)).term=t+picked d.off 4 / 3:=rfl
  have e2:(itemAt d (t+picked d.off 4 / 3) (m+picked d.wait 3)).time=m+picked d.wait 3:=rfl
  rw [e1,e2]
  refine ⟨⟨⟨check_itemAt d _ _ (by omega) (by omega) (by omega) (by omega),by omega⟩,by omega⟩,chain_items l _ _ _ _ (by omega) (by omega) (by omega) (by omega) (by omega) (by omega)⟩
theorem checkLog_ok {b bt:Int} {l:List Itm} (h1:0≤b) (h2:0≤bt) (h3:bt≤1048576) (h4:b=0 ↔ bt=0) (h5:l.length≤200) (h6:b+l.length≤1048576) (h7:chainOk bt 0 l=true):checkLog b bt l=0:=by
 have e:((b == 0) != (bt == 0))=false:=by
  by_cases hb:b=0
  ·have:=h4.1 hb;simp [hb,this]
  ·have:¬ bt=0:=fun e=>hb (h4.2 e)
   have a1:(b == 0)=false:=by simpa using hb
   have a2:(bt == 0)=false:=by simpa using this
   rw [a1,a2];rfl
 have hb:headBad b bt l.length=false:=by
  simp only [headBad,e,Bool.or_eq_false_iff,decide_eq_false_iff_not]
  refine ⟨⟨⟨⟨⟨?_,?_⟩,?_⟩,trivial⟩,?_⟩,?_⟩ <;> omega
 unfold checkLog
 rw [hb,if_neg (by simp),if_pos h7]
theorem checkItem_ok {x:Itm} (h:checkItem x=0):1≤x.term∧x.term≤1048576∧0≤x.time∧x.time≤1073741824:=by
 unfold checkItem at h
 split at h
 ·cases h
 ·omega
theorem chain_head {t m:Int} {x:Itm} {l:List Itm} (h:chainOk t m (x :: l)=true):checkItem x=0∧t≤x.term∧m≤x.time∧chainOk x.term x.time l=true:=by
 simp only [chainOk,Bool.and_eq_true,beq_iff_eq,Bool.not_eq_true',decide_eq_false_iff_not] at h
 obtain ⟨⟨⟨h1,h2⟩,h3⟩,h4⟩:=h
 exact ⟨h1,by omega,by omega,h4⟩
theorem chain_weak {t m m':Int} {l:List Itm} (h:chainOk t m l=true) (hm:m'≤m):chainOk t m' l=true:=by
 cases l with
 | nil=>rfl
 | cons x l=>
  obtain ⟨h1,h2,h3,h4⟩:=chain_head h
  have a2:decide (x.term<t)=false:=by simp;omega
  have a3:decide (x.time<m')=false:=by simp;omega
  simp [chainOk,h1,a2,a3,h4]
theorem chain_drop:∀ (l:List Itm) (k:Nat) (t m:Int),chainOk t m l=true→0≤m→t≤1048576→k≤l.length →
  chainOk (if k=0 then t else match l[k - 1]? with|some x=>x.term|none=>t) 0 (l.drop k)=true ∧
  t≤(if k=0 then t else match l[k - 1]? with|some x=>x.term|none=>t)∧(if k=0 then t else match l[k - 1]? with|some x=>x.term|none=>t)≤1048576 ∧
  (0<k→1≤(if k=0 then t else match l[k - 1]? with|some x=>x.term|none=>t))
 | l,0,t,m,h,hm,ht,_=>⟨chain_weak h hm,by simp,by simpa using ht,by omega⟩
 | [],k+1,t,m,h,hm,ht,hk=>by simp at hk
 | x :: l,k+1,t,m,h,hm,ht,hk=>by
  have hk:k≤l.length:=by simpa using hk
  obtain ⟨h1,h2,h3,h4⟩:=chain_head h
  have hc:=checkItem_ok h1
  have ih:=chain_drop l k x.term x.time h4 (by omega) (by omega) hk
  cases k with
  | zero=>simp at ih ⊢;exact ⟨ih.1,h2,hc.2.1,hc.1⟩
  | succ k=>
   have hk:k<l.length:=hk
   simp [List.getElem?_eq_getElem hk] at ih ⊢
   exact ⟨ih.1,by omega,by omega,by omega⟩
theorem termOf_k {b bt:Int} {L:List Itm} {k:Nat} (hk:k≤L.length):(termOf b bt L (b+k)).1=(if k=0 then bt else match L[k - 1]? with|some x=>x.term|none=>bt):=by
 cases k with
 | zero=>simp [termOf_eq]
 | succ k=>
  rw [show b+((k+1:Nat):Int)=b+1+k by omega,termOf_at (by omega)]
  simp [List.getElem?_eq_getElem (show k<L.length by omega)]
theorem trim_good {b bt:Int} {L:List Itm} {k:Nat} (h:checkLog b bt L=0) (hk:k≤L.length) :
  checkLog (b+k) (termOf b bt L (b+k)).1 (L.drop k)=0∧0≤(termOf b bt L (b+k)).1∧(termOf b bt L (b+k)).1≤1048576∧lastOf (b+k) (termOf b bt L (b+k)).1 (L.drop k)=lastOf b bt L:=by
 obtain ⟨g1,g2,g3,g4,g5,g6,g7⟩:=log_good h
 obtain ⟨d1,d2,d3,d4⟩:=chain_drop L k bt 0 g7 (by omega) g3 hk
 rw [termOf_k hk]
 refine ⟨checkLog_ok (by omega) (by omega) d3 ?_ (by rw [List.length_drop];omega) (by rw [List.length_drop];omega) d1,by omega,d3,?_⟩
 ·cases k with
  | zero=>simpa using g6
  | succ k=>have:=d4 (by omega);constructor <;> intro <;> omega
 ·by_cases hd:L.length=k
  ·subst hd
   rw [List.drop_length,lastOf_nil]
   by_cases h0:L.length=0
   ·obtain rfl:L=[]:=List.length_eq_zero_iff.1 h0
    simp [lastOf_nil]
   ·rw [lastOf_pos (by omega),if_neg h0,List.getElem?_eq_getElem (by omega)]
  ·rw [lastOf_pos (l:=L.drop k) (by rw [List.length_drop];omega),lastOf_pos (l:=L) (by omega)]
   have e1:((L.drop k).length:Int)=L.length - k:=by rw [List.length_drop];omega
   rw [e1]
   congr 1
   ·omega
   ·simp only [List.getElem_drop,List.length_drop]
    congr 2;omega
theorem lastOf_place (b bt:Int) (L:List Itm):(lastOf b bt L).1=b+L.length:=by
 by_cases h:L=[]
 ·subst h;simp [lastOf_nil]
 ·have:0<L.length:=List.length_pos_iff.2 h
  rw [lastOf_pos this]
end Go.Proofs.YtgdcofbnbiclmaaGreatDoor


import Derived.Test.YtgdcofbnbiclmaaGreatDoorQHold
import Derived.Test.YtgdcofbnbiclmaaGreatDoorQCall
import Derived.Test.YtgdcofbnbiclmaaGreatDoorQOwn
import Derived.Test.YtgdcofbnbiclmaaGreatDoorQHeldX
import Derived.Deep.RegionHeld3
import Derived.Test.YtgdcofbnbiclmaaGreatDoorQCmd
namespace Go.Proofs.YtgdcofbnbiclmaaGreatDoor
set_option linter.all false
set_option maxHeartbeats 32000000
open Go.RowKit
theorem Own.of_blk {w:World} {base g size:Nat} {e:TypeId} {cs:Array Value} {rows:List (List Value)} (h:Blk w g e cs) (hb:base≤g) (hf:cs.toList=rows.flatten) (hr:∀ r∈rows,r.length=size) (hm:rows.length≤maxLen) :
  Own w base e size (.slice (some ⟨g,0,none⟩) rows.length rows.length) rows:=by
 have hl:=flatten_length hr
 refine ⟨⟨hl,.inr ⟨g,rows.length,cs,rfl,hb,h,Nat.le_refl _,hm,?_,?_⟩⟩,hr⟩
 ·rw [←hl,←hf];simp
 ·rw [hf,List.take_of_length_le (by rw [hl];exact Nat.le_refl _)]
attribute [local go_sem ↓] Go.wp_at_zero Go.wp_at_succ
def oldOf (l:List En) (k:Nat) (t:Bool):Va:=if t=true then (match l[k]? with|some x=>x.val|none=>zeroVa) else zeroVa
def doS (now:Int) (l:List En) (c:Cmd):List En×Re:=
 if c.kind=22 then (l,⟨0,emp,0,l.map En.key⟩)
 else if c.kind=19 then (if keyHas c.key l=true then (delRows l (keyAt c.key l),toldR 1) else (l,toldR 0))
 else if c.kind=20∨c.kind=21 then timedS now l (keyAt c.key l) (keyHas c.key l) c
 else if (doneVal (oldOf l (keyAt c.key l) (keyHas c.key l)) c).2.1.code≠0 then (l,(doneVal (oldOf l (keyAt c.key l) (keyHas c.key l)) c).2.1)
 else if (doneVal (oldOf l (keyAt c.key l) (keyHas c.key l)) c).1.kind=0∧keyHas c.key l=true then (delRows l (keyAt c.key l),(doneVal (oldOf l (keyAt c.key l) (keyHas c.key l)) c).2.1)
 else if keyHas c.key l=false∧l.length=12 then (l,failR 6)
 else if (doneVal (oldOf l (keyAt c.key l) (keyHas c.key l)) c).1.kind≠0 then (setS l (keyAt c.key l) (keyHas c.key l) c (doneVal (oldOf l (keyAt c.key l) (keyHas c.key l)) c).1,(doneVal (oldOf l (keyAt c.key l) (keyHas c.key l)) c).2.1)
 else (l,(doneVal (oldOf l (keyAt c.key l) (keyHas c.key l)) c).2.1)
structure StOk (now:Int) (l:List En):Prop where
 now0:0≤now
 now1:now≤1073741824
 few:l.length≤12
 keys:∀ x∈l,1≤x.key.size∧x.key.size≤12
 good:∀ x∈l,Good x.val
 till:∀ x∈l,x.till=0∨(now<x.till∧x.till≤1073741824)
 rise:l.Pairwise Rk
theorem chain_pair {α:Type} {R:α→α→Prop} (tr:∀ a b c,R a b→R b c→R a c) {l:List α} (h:∀ j (hj:j+1<l.length),R l[j] l[j+1]):l.Pairwise R:=by
 rw [List.pairwise_iff_getElem]
 intro i j hi hj hij
 induction j with
 | zero=>omega
 | succ j ih=>
  rcases Nat.lt_or_eq_of_le (Nat.le_of_lt_succ hij) with hlt|rfl
  ·exact tr _ _ _ (ih (by omega) hlt) (h j hj)
  ·exact h i hj
theorem rk_trans (a b c:En) (h:Rk a b) (k:Rk b c):Rk a c:=cmpB_trans h k
theorem entBad_at {now:Int} {l:List En} {k:Nat} (hk:k<l.length):entBad now l k=(keyBad l[k] || checkValue l[k].val != 0 || orderBad l k l[k] || tillBad now l[k]):=by
 unfold entBad;rw [List.getElem?_eq_getElem hk]
theorem store_ok {now:Int} {l:List En} (h:checkStore now l=0):StOk now l:=by
 unfold checkStore at h
 split at h
 ·cases h
 next h0=>
  split at h
  ·cases h
  next h1=>
   have hall:∀ k (hk:k<l.length),keyBad l[k]=false∧checkValue l[k].val=0∧orderBad l k l[k]=false∧tillBad now l[k]=false:=by
    intro k hk
    have hf:entBad now l k=false:=by
     cases he:entBad now l k with
     | false=>rfl
     | true=>exact absurd (List.any_eq_true.2 ⟨k,List.mem_range.2 hk,he⟩) h1
    rw [entBad_at hk] at hf
    simp only [Bool.or_eq_false_iff,bne_eq_false_iff_eq] at hf
    exact ⟨hf.1.1.1,hf.1.1.2,hf.1.2,hf.2⟩
   have hm:∀ x∈l,keyBad x=false∧checkValue x.val=0∧tillBad now x=false:=by
    intro x hx
    obtain ⟨k,hk,rfl⟩:=List.mem_iff_getElem.1 hx
    obtain ⟨a,b,_,d⟩:=hall k hk
    exact ⟨a,b,d⟩
   refine ⟨by omega,by omega,by omega,fun x hx=>?_,fun x hx=>good_of (hm x hx).2.1,fun x hx=>?_,chain_pair rk_trans fun j hj=>?_⟩
   ·have:=(hm x hx).1
    simp only [keyBad,Bool.or_eq_false_iff,decide_eq_false_iff_not] at this
    omega
   ·have:=(hm x hx).2.2
    simp only [tillBad,Bool.and_eq_false_iff,bne_eq_false_iff_eq,Bool.or_eq_false_iff,decide_eq_false_iff_not] at this
    omega
   ·have:=(hall (j+1) hj).2.2.1
    simp only [orderBad,List.getElem?_eq_getElem (show j<l.length by omega),decide_eq_false_iff_not] at this
    show cmpB _ _<0
    omega
theorem ok_store {now:Int} {l:List En} (h:StOk now l):checkStore now l=0:=by
 refine store_good ?_ fun k hk=>?_
 ·have:=h.now0;have:=h.now1;have:=h.few;omega
 ·rw [entBad_at hk]
  have hx:=List.getElem_mem hk
  simp only [Bool.or_eq_false_iff,bne_eq_false_iff_eq]
  refine ⟨⟨⟨?_,good_to (h.good _ hx)⟩,?_⟩,?_⟩
  ·have:=h.keys _ hx
   simp only [keyBad,Bool.or_eq_false_iff,decide_eq_false_iff_not]
   omega
  ·cases k with
   | zero=>rfl
   | succ j=>
    have hr:cmpB l[j].key l[j+1].key<0:=List.pairwise_iff_getElem.1 h.rise j (j+1) (by omega) hk (by omega)
    simp only [orderBad,List.getElem?_eq_getElem (show j<l.length by omega),decide_eq_false_iff_not]
    omega
  ·have:=h.till _ hx
   simp only [tillBad,Bool.and_eq_false_iff,bne_eq_false_iff_eq,Bool.or_eq_false_iff,decide_eq_false_iff_not]
   omega
def alive (t:Int) (l:List En):List En:=l.filter fun x => !gone t x
theorem StOk.small {now:Int} {l:List En} (h:StOk now l):∀ x∈l,small x.val 20:=fun x hx=>by
 have:=(h.good x hx).sizes
 exact ⟨this.1,this.2.1,this.2.2.1⟩
structure ReOk (r:Re):Prop where
 c0:0≤r.code
 c1:r.code≤13
 text:r.text.size≤20
 few:r.list.length≤20
 each:∀ s∈r.list,s.size≤20
 n0 : -1099511627776≤r.n
 n1:r.n≤1099511627776
def repOk (r:Re):Int:=checkReply r.code r.text r.n r.list
theorem rep_to {r:Re} (h:repOk r=0):ReOk r:=by
 unfold repOk checkReply at h
 split at h
 ·cases h
 split at h
 ·cases h
 split at h
 ·cases h
 next h3=>
  split at h
  ·cases h
  refine ⟨by omega,by omega,by omega,by omega,fun s hs=>?_,by omega,by omega⟩
  rcases Nat.lt_or_ge 20 s.size with hl|hl
  ·exact absurd (List.any_eq_true.2 ⟨s,hs,by simpa using hl⟩) h3
  ·exact hl
attribute [local go_sem ↓] Go.wp_at_zero Go.wp_at_succ
structure St (w:World) (A:Option Addr) (n c:Nat) (l:List En):Prop where
 sl:StSl w A n c l
 tp:Tp w A 84
section
variable {w w':World} {A:Option Addr} {n c g:Nat} {l:List En} {t:TypeId} {cs:Array Value}
theorem St.nil (w:World):St w none 0 0 []:=⟨StSl.nil w,Tp.none_⟩
theorem St.bl (h:St w A n c l) (hb:Below w.heap.size w w'):St w' A n c l:=⟨h.sl.bl hb,h.tp.bl hb⟩
theorem St.of {B:Nat} (h:StOwn w B A n c l):St w A n c l:=⟨h.sl,by obtain ⟨rows,h1,_⟩:=h;exact own_tp h1⟩
theorem St.grown (h:St w A n c l) (R:Blk w g t cs) (hg:w.grownBy w' (some g)) (h0:84≠t:=by decide) (h1:t≠160:=by decide) (h2:t≠9:=by decide) (h3:t≠163:=by decide):St w' A n c l:=by
 refine ⟨?_,grown_tp h.tp R hg h0⟩
 obtain ⟨rows,k1,k2⟩:=h.sl
 exact ⟨rows,k1.far hg (h.tp.ne R h0),k2.fr (Fr.grown R hg h1 h2 h3)⟩
end
structure Cl where
 id:Int
 seq:Int
 time:Int
 rep:Re
section
variable {w w':World} {g n c:Nat} {t:TypeId} {A Y:Option Addr} {m d:Nat} {cs:Array Value} {x:Cl} {r:List Value} {l l':List Cl} {rows rows':List (List Value)} {tx:List ByteArray}
structure TxSl (w:World) (Y:Option Addr) (m d:Nat) (tx:List ByteArray):Prop where
 sl:Sl w 1 Y m d (strRows tx)
 tp:Tp w Y 9
theorem TxSl.fr (h:TxSl w Y m d tx) (f:Fr w w'):TxSl w' Y m d tx:=
 ⟨h.sl.kept f.size fun a ha _=>by obtain ⟨cs,hc⟩:=h.tp a ha;exact (f.i _ _ hc).trans hc.symm,fun a ha=>by obtain ⟨cs,hc⟩:=h.tp a ha;exact ⟨cs,f.i _ _ hc⟩⟩
theorem TxSl.bl (h:TxSl w Y m d tx) (hb:Below w.heap.size w w'):TxSl w' Y m d tx:=h.fr (Fr.of hb)
theorem TxSl.nil (w:World):TxSl w none 0 0 []:=⟨Sl.nil_ w 1,Tp.none_⟩
theorem TxSl.len (h:TxSl w Y m d tx):tx.length=m:=by have:=h.sl.len;simpa [strRows] using this
def Cl.cells (x:Cl) (s:Value):List Value:=[.int .i64 x.id,.int .i64 x.seq,.int .i64 x.time,.int .i64 x.rep.code,.string x.rep.text,.int .i64 x.rep.n,s]
def ClAt (w:World) (x:Cl) (r:List Value):Prop:=∃ Y m d,r=x.cells (.slice Y m d)∧TxSl w Y m d x.rep.list
theorem ClAt.fr (h:ClAt w x r) (f:Fr w w'):ClAt w' x r:=by
 obtain ⟨Y,m,d,h1,h2⟩:=h
 exact ⟨Y,m,d,h1,h2.fr f⟩
def Cls (w:World):List Cl→List (List Value)→Prop
 | [],[]=>True
 | x :: l,r :: rows=>ClAt w x r∧Cls w l rows
 | _,_=>False
theorem Cls.fr:∀ {l:List Cl} {rows:List (List Value)},Cls w l rows→Fr w w'→Cls w' l rows
 | [],[],_,_=>trivial
 | _ :: _,_ :: _,h,f=>⟨h.1.fr f,Cls.fr h.2 f⟩
 | [],_ :: _,h,_=>h.elim
 | _ :: _,[],h,_=>h.elim
theorem Cls.len:∀ {l:List Cl} {rows:List (List Value)},Cls w l rows→l.length=rows.length
 | [],[],_=>rfl
 | _ :: _,_ :: _,h=>by simp [Cls.len h.2]
 | [],_ :: _,h=>h.elim
 | _ :: _,[],h=>h.elim
theorem Cls.at_:∀ {l:List Cl} {rows:List (List Value)},Cls w l rows→∀ {k:Nat} (hk:k<l.length),∃ r,rows[k]?=some r∧ClAt w l[k] r
 | [],_,_,k,hk=>by simp at hk
 | _ :: _,r :: _,h,0,_=>⟨r,rfl,h.1⟩
 | _ :: _,_ :: _,h,k+1,hk=>Cls.at_ h.2 (k:=k) (by simpa using hk)
 | _ :: _,[],h,_,_=>h.elim
theorem Cls.app:∀ {l:List Cl} {rows:List (List Value)},Cls w l rows→∀ {l':List Cl} {rows':List (List Value)},Cls w l' rows'→Cls w (l ++ l') (rows ++ rows')
 | [],[],_,_,_,k=>k
 | _ :: _,_ :: _,h,_,_,k=>⟨h.1,Cls.app h.2 k⟩
 | [],_ :: _,h,_,_,_=>h.elim
 | _ :: _,[],h,_,_,_=>h.elim
theorem Cls.one_ (h:ClAt w x r):Cls w [x] [r]:=⟨h,trivial⟩
structure CC (w:World) (b o:Nat) (x:Cl) (s:Value):Prop where
 c0:w.cell? ⟨b,o,none⟩=some (.int .i64 x.id)
 c1:w.cell? ⟨b,o+1,none⟩=some (.int .i64 x.seq)
 c2:w.cell? ⟨b,o+2,none⟩=some (.int .i64 x.time)
 c3:w.cell? ⟨b,o+3,none⟩=some (.int .i64 x.rep.code)
 c4:w.cell? ⟨b,o+4,none⟩=some (.string x.rep.text)
 c5:w.cell? ⟨b,o+5,none⟩=some (.int .i64 x.rep.n)
 c6:w.cell? ⟨b,o+6,none⟩=some s
theorem cli_at (h:Seg w 7 A rows) (he:Cls w l rows) {k:Nat} (hk:k<l.length) :
  ∃ b off Y m d,A=some ⟨b,off,none⟩∧b<w.heap.size∧CC w b (off+k*7) l[k] (.slice Y m d)∧TxSl w Y m d l[k].rep.list:=by
 obtain ⟨r,hr,Y,m,d,h1,h2⟩:=he.at_ hk
 obtain ⟨b,off,e1,hb,hc⟩:=h (by have:=List.length_pos_of_mem (List.mem_of_getElem? hr);exact this)
 have hc':∀ j u,r[j]?=some u→w.cell? ⟨b,off+k*7+j,none⟩=some u:=by
  intro j u hu
  rw [Nat.add_assoc]
  exact hc k r hr j u hu
 subst h1
 exact ⟨b,off,Y,m,d,e1,hb,⟨hc' 0 _ rfl,hc' 1 _ rfl,hc' 2 _ rfl,hc' 3 _ rfl,hc' 4 _ rfl,hc' 5 _ rfl,hc' 6 _ rfl⟩,h2⟩
def ClSl (w:World) (A:Option Addr) (n c:Nat) (l:List Cl):Prop:=∃ rows,Sl w 7 A n c rows∧Cls w l rows
theorem ClSl.len (h:ClSl w A n c l):l.length=n:=by obtain ⟨rows,h1,h2⟩:=h;rw [h2.len];exact h1.len
theorem ClSl.bl (h:ClSl w A n c l) (hb:Below w.heap.size w w'):ClSl w' A n c l:=by obtain ⟨rows,h1,h2⟩:=h;exact ⟨rows,h1.below hb,h2.fr (Fr.of hb)⟩
theorem ClSl.nil (w:World):ClSl w none 0 0 []:=⟨[],Sl.nil_ w 7,trivial⟩
theorem ClSl.at_ (h:ClSl w A n c l) {k:Nat} (hk:k<l.length) :
  ∃ b off Y m d,A=some ⟨b,off,none⟩∧b<w.heap.size∧CC w b (off+k*7) l[k] (.slice Y m d)∧TxSl w Y m d l[k].rep.list:=by
 obtain ⟨rows,h1,h2⟩:=h;exact cli_at h1.seg h2 hk
def ClOwn (w:World) (B:Nat) (A:Option Addr) (n c:Nat) (l:List Cl):Prop:=∃ rows,Own w B 142 7 (.slice A n c) rows∧Cls w l rows
theorem ClOwn.sl {B:Nat} (h:ClOwn w B A n c l):ClSl w A n c l:=by obtain ⟨rows,h1,h2⟩:=h;exact ⟨rows,h1.sl',h2⟩
theorem ClOwn.bl {B:Nat} (h:ClOwn w B A n c l) (hb:Below w.heap.size w w'):ClOwn w' B A n c l:=by obtain ⟨rows,h1,h2⟩:=h;exact ⟨rows,h1.below hb,h2.fr (Fr.of hb)⟩
theorem ClOwn.dr {B:Nat} (h:ClOwn w B A n c l):ClOwn w.drew B A n c l:=h.bl (Below.refl _ w).drew
theorem ClOwn.grown {B:Nat} (h:ClOwn w B A n c l) (R:Blk w g t cs) (hg:w.grownBy w' (some g)) (h0:t≠142:=by decide) (h1:t≠160:=by decide) (h2:t≠9:=by decide) (h3:t≠163:=by decide):ClOwn w' B A n c l:=by
 obtain ⟨rows,k1,k2⟩:=h
 refine ⟨rows,⟨⟨k1.1.1,?_⟩,k1.2⟩,k2.fr (Fr.grown R hg h1 h2 h3)⟩
 rcases k1.1.2 with e|⟨b,cap,cur,e1,e2,e3,e4⟩
 ·exact .inl e
 ·exact .inr ⟨b,cap,cur,e1,e2,grown_blk (t:=142) e3 hg (blk_ne (t:=142) e3 R (Ne.symm h0)),e4⟩
structure Ci (w:World) (A:Option Addr) (n c:Nat) (l:List Cl):Prop where
 sl:ClSl w A n c l
 tp:Tp w A 142
theorem Ci.nil (w:World):Ci w none 0 0 []:=⟨ClSl.nil w,Tp.none_⟩
theorem Ci.bl (h:Ci w A n c l) (hb:Below w.heap.size w w'):Ci w' A n c l:=⟨h.sl.bl hb,h.tp.bl hb⟩
theorem Ci.of {B:Nat} (h:ClOwn w B A n c l):Ci w A n c l:=⟨h.sl,by obtain ⟨rows,h1,_⟩:=h;exact own_tp h1⟩
theorem Ci.grown (h:Ci w A n c l) (R:Blk w g t cs) (hg:w.grownBy w' (some g)) (h0:142≠t:=by decide) (h1:t≠160:=by decide) (h2:t≠9:=by decide) (h3:t≠163:=by decide):Ci w' A n c l:=by
 refine ⟨?_,grown_tp h.tp R hg h0⟩
 obtain ⟨rows,k1,k2⟩:=h.sl
 exact ⟨rows,k1.far hg (h.tp.ne R h0),k2.fr (Fr.grown R hg h1 h2 h3)⟩
theorem TxSl.grown (h:TxSl w Y m d tx) (R:Blk w g t cs) (hg:w.grownBy w' (some g)) (h1:t≠160:=by decide) (h2:t≠9:=by decide) (h3:t≠163:=by decide):TxSl w' Y m d tx:=h.fr (Fr.grown R hg h1 h2 h3)
end
structure Mach where
 now:Int
 ents:List En
 next:Int
 clis:List Cl
structure CallM where
 client:Int
 seq:Int
 cmd:Cmd
def zeroMach:Mach:=⟨0,[],0,[]⟩
def idBad (l:List Cl):Nat→Cl→Bool
 | 0,_=>false
 | j+1,x=>match l[j]? with|none=>false|some y=>decide (x.id≤y.id)
def cliBad (now next:Int) (l:List Cl) (k:Nat):Bool:=match l[k]? with
 | none=>false
 | some x=>decide (x.id<1) || decide (next≤x.id) || idBad l k x || decide (x.seq<0) || decide (1048576<x.seq) || decide (x.time<0) || decide (now<x.time) || repOk x.rep != 0
def checkMach (m:Mach):Int:=if checkStore m.now m.ents≠0∨m.next<1∨1048577<m.next∨4<m.clis.length then 13 else if (List.range m.clis.length).any (cliBad m.now m.next m.clis)=true then 13 else 0
theorem mach_bad {m:Mach} {k:Nat} (hk:k<m.clis.length) (h:cliBad m.now m.next m.clis k=true):checkMach m=13:=by
 unfold checkMach
 split
 ·rfl
 ·rw [if_pos (List.any_eq_true.2 ⟨k,List.mem_range.2 hk,h⟩)]
theorem mach_good {m:Mach} (h0:¬ (checkStore m.now m.ents≠0∨m.next<1∨1048577<m.next∨4<m.clis.length)) (h:∀ k<m.clis.length,cliBad m.now m.next m.clis k=false):checkMach m=0:=by
 unfold checkMach
 rw [if_neg h0,if_neg]
 intro hc
 obtain ⟨k,hk,hb⟩:=List.any_eq_true.1 hc
 rw [h k (List.mem_range.1 hk)] at hb
 cases hb
structure ClOk (now next:Int) (x:Cl):Prop where
 id1:1≤x.id
 idn:x.id<next
 seq0:0≤x.seq
 seq1:x.seq≤1048576
 time0:0≤x.time
 time1:x.time≤now
 rep:repOk x.rep=0
structure MachOk (m:Mach):Prop where
 sto:StOk m.now m.ents
 next1:1≤m.next
 nextm:m.next≤1048577
 few:m.clis.length≤4
 cli:∀ x∈m.clis,ClOk m.now m.next x
 rise:m.clis.Pairwise (fun a b=>a.id<b.id)
theorem cliBad_at {now next:Int} {l:List Cl} {k:Nat} (hk:k<l.length):cliBad now next l k=(decide (l[k].id<1) || decide (next≤l[k].id) || idBad l k l[k] || decide (l[k].seq<0) || decide (1048576<l[k].seq) || decide (l[k].time<0) || decide (now<l[k].time) || repOk l[k].rep != 0):=by
 unfold cliBad;rw [List.getElem?_eq_getElem hk]
theorem ok_mach {m:Mach} (h:MachOk m):checkMach m=0:=by
 refine mach_good ?_ fun k hk=>?_
 ·rw [ok_store h.sto];have:=h.next1;have:=h.nextm;have:=h.few;omega
 ·rw [cliBad_at hk]
  have hx:=h.cli _ (List.getElem_mem hk)
  have hi:idBad m.clis k m.clis[k]=false:=by
   cases k with
   | zero=>rfl
   | succ j=>
    have hr:m.clis[j].id<m.clis[j+1].id:=List.pairwise_iff_getElem.1 h.rise j (j+1) (by omega) hk (by omega)
    simp only [idBad,List.getElem?_eq_getElem (show j<m.clis.length by omega),decide_eq_false_iff_not]
    omega
  obtain ⟨a,b,c,d,e,f,g⟩:=hx
  rw [hi,g]
  simp only [Bool.or_eq_false_iff,decide_eq_false_iff_not]
  (repeat' apply And.intro) <;> first|omega|trivial|rfl
theorem mach_ok {m:Mach} (h:checkMach m=0):MachOk m:=by
 unfold checkMach at h
 split at h
 ·cases h
 next h0=>
  split at h
  ·cases h
  next h1=>
   have hs:checkStore m.now m.ents=0:=Classical.byContradiction fun hc=>h0 (.inl hc)
   have hall:∀ k (hk:k<m.clis.length),ClOk m.now m.next m.clis[k]∧idBad m.clis k m.clis[k]=false:=by
    intro k hk
    have hf:cliBad m.now m.next m.clis k=false:=by
     cases he:cliBad m.now m.next m.clis k with
     | false=>rfl
     | true=>exact absurd (List.any_eq_true.2 ⟨k,List.mem_range.2 hk,he⟩) h1
    rw [cliBad_at hk] at hf
    simp only [Bool.or_eq_false_iff,decide_eq_false_iff_not,bne_eq_false_iff_eq] at hf
    obtain ⟨⟨⟨⟨⟨⟨⟨a,b⟩,i⟩,c⟩,d⟩,e⟩,f⟩,g⟩:=hf
    exact ⟨⟨by omega,by omega,by omega,by omega,by omega,by omega,g⟩,i⟩
   refine ⟨store_ok hs,by omega,by omega,by omega,fun x hx=>?_,chain_pair (fun a b c (h:a.id<b.id) (k:b.id<c.id)=>show a.id<c.id by omega) fun j hj=>?_⟩
   ·obtain ⟨k,hk,rfl⟩:=List.mem_iff_getElem.1 hx
    exact (hall k hk).1
   ·have:=(hall (j+1) hj).2
    simp only [idBad,List.getElem?_eq_getElem (show j<m.clis.length by omega),decide_eq_false_iff_not] at this
    omega
def oldest (l:List Cl):Nat→Nat
 | 0=>0
 | k+1=>if (l[k]?.map Cl.time).getD 0<(l[oldest l k]?.map Cl.time).getD 0 then k else oldest l k
def openM (m:Mach):Mach×Re:=
 if 1048576<m.next then (m,failR 6)
 else (⟨m.now,m.ents,m.next+1,(if m.clis.length=4 then delRows m.clis (oldest m.clis m.clis.length) else m.clis) ++ [⟨m.next,0,m.now,zeroRe⟩]⟩,toldR m.next)
def doM (m:Mach) (c:CallM):Mach×Re:=
 if c.client=0 then openM m
 else match m.clis.findIdx? (fun x=>decide (x.id=c.client)) with
  | none=>(m,failR 11)
  | some i=>match m.clis[i]? with
   | none=>(m,failR 11)
   | some x=>
    if c.seq=x.seq then (m,x.rep)
    else if c.seq≠x.seq+1 then (m,failR 10)
    else (⟨m.now,(doS m.now m.ents c.cmd).1,m.next,m.clis.set i ⟨x.id,c.seq,m.now,(doS m.now m.ents c.cmd).2⟩⟩,(doS m.now m.ents c.cmd).2)
def laterM (m:Mach) (t:Int):Mach:=⟨t,alive t m.ents,m.next,m.clis⟩
def ccM (c:CallM):Int:=checkCall c.client c.seq c.cmd.kind c.cmd.key c.cmd.field c.cmd.text c.cmd.n
def applyM (m:Mach) (time:Int) (c:CallM):Mach×Re×Int:=
 if checkMach m≠0 then (zeroMach,zeroRe,checkMach m)
 else if time<0∨1073741824<time then (zeroMach,zeroRe,2)
 else if ccM c≠0 then (zeroMach,zeroRe,ccM c)
 else ((doM (laterM m (max m.now time)) c).1,(doM (laterM m (max m.now time)) c).2,0)
end Go.Proofs.YtgdcofbnbiclmaaGreatDoor


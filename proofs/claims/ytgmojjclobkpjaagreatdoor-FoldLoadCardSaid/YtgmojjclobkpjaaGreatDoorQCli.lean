import Derived.Test.YtgmojjclobkpjaaGreatDoorQEnt
import Derived.Test.YtgmojjclobkpjaaGreatDoorQStoP
import Derived.Test.YtgmojjclobkpjaaGreatDoorQCall
import Derived.Test.YtgmojjclobkpjaaGreatDoorQValsP
namespace Go.Proofs.YtgmojjclobkpjaaGreatDoor
set_option linter.all false
set_option maxHeartbeats 32000000
open Go.RowKit
structure Cl where
 id:Int
 seq:Int
 time:Int
 rep:Re
section
variable {w w':World} {g n c:Nat} {t:TypeId} {A Y:Option Addr} {m d:Nat} {cs:Array Value} {x:Cl} {r:List Value} {l l':List Cl} {rows rows':List (List Value)} {tx:List ByteArray}
structure TxSl (w:World) (Y:Option Addr) (m d:Nat) (tx:List ByteArray):Prop where
 sl:Sl w 1 Y m d (strRows tx)
 tp:Tp w Y 9
theorem TxSl.fr (h:TxSl w Y m d tx) (f:Fr w w'):TxSl w' Y m d tx:=
 ⟨h.sl.kept f.size fun a ha _=>by obtain ⟨cs,hc⟩:=h.tp a ha;exact (f.i _ _ hc).trans hc.symm,fun a ha=>by obtain ⟨cs,hc⟩:=h.tp a ha;exact ⟨cs,f.i _ _ hc⟩⟩
theorem TxSl.bl (h:TxSl w Y m d tx) (hb:Below w.heap.size w w'):TxSl w' Y m d tx:=h.fr (Fr.of hb)
theorem TxSl.al (h:TxSl w Y m d tx) (o:Obj):TxSl (w.alloc o) Y m d tx:=h.bl ((Below.refl _ w).alloc (Nat.le_refl _) o)
theorem TxSl.dr (h:TxSl w Y m d tx):TxSl w.drew Y m d tx:=h.bl (Below.refl _ w).drew
theorem TxSl.nil (w:World):TxSl w none 0 0 []:=⟨Sl.nil_ w 1,Tp.none_⟩
theorem TxSl.len (h:TxSl w Y m d tx):tx.length=m:=by have:=h.sl.len;simpa [strRows] using this
def Cl.cells (x:Cl) (s:Value):List Value:=[.int .i64 x.id,.int .i64 x.seq,.int .i64 x.time,.int .i64 x.rep.code,.string x.rep.text,.int .i64 x.rep.n,s]
def ClAt (w:World) (x:Cl) (r:List Value):Prop:=∃ Y m d,r=x.cells (.slice Y m d)∧TxSl w Y m d x.rep.list
theorem ClAt.fr (h:ClAt w x r) (f:Fr w w'):ClAt w' x r:=by
 obtain ⟨Y,m,d,h1,h2⟩:=h
 exact ⟨Y,m,d,h1,h2.fr f⟩
theorem ClAt.one (h:ClAt w x r):∀ u∈r,u.oneCell'=true:=by
 obtain ⟨Y,m,d,rfl,_⟩:=h
 intro u hu
 simp only [Cl.cells,List.mem_cons,List.not_mem_nil,or_false] at hu
 rcases hu with rfl|rfl|rfl|rfl|rfl|rfl|rfl <;> rfl
def Cls (w:World):List Cl→List (List Value)→Prop
 | [],[]=>True
 | x :: l,r :: rows=>ClAt w x r∧Cls w l rows
 | _,_=>False
theorem Cls.fr:∀ {l:List Cl} {rows:List (List Value)},Cls w l rows→Fr w w'→Cls w' l rows
 | [],[],_,_=>trivial
 | _ :: _,_ :: _,h,f=>⟨h.1.fr f,Cls.fr h.2 f⟩
 | [],_ :: _,h,_=>h.elim
 | _ :: _,[],h,_=>h.elim
theorem Cls.len:∀ {l:List Cl} {rows:List (List Value)},Cls w l rows→l.length=rows.length
 | [],[],_=>rfl
 | _ :: _,_ :: _,h=>by simp [Cls.len h.2]
 | [],_ :: _,h=>h.elim
 | _ :: _,[],h=>h.elim
theorem Cls.at_:∀ {l:List Cl} {rows:List (List Value)},Cls w l rows→∀ {k:Nat} (hk:k<l.length),∃ r,rows[k]?=some r∧ClAt w l[k] r
 | [],_,_,k,hk=>by simp at hk
 | _ :: _,r :: _,h,0,_=>⟨r,rfl,h.1⟩
 | _ :: _,_ :: _,h,k+1,hk=>Cls.at_ h.2 (k:=k) (by simpa using hk)
 | _ :: _,[],h,_,_=>h.elim
theorem Cls.one:∀ {l:List Cl} {rows:List (List Value)},Cls w l rows→∀ r∈rows,∀ u∈r,u.oneCell'=true
 | [],[],_,_,hr,_,_=>by cases hr
 | _ :: _,_ :: _,h,_,hr,u,hu=>by
  rcases List.mem_cons.1 hr with rfl|hr
  ·exact h.1.one u hu
  ·exact Cls.one h.2 _ hr u hu
 | [],_ :: _,h,_,_,_,_=>h.elim
 | _ :: _,[],h,_,_,_,_=>h.elim
theorem Cls.app:∀ {l:List Cl} {rows:List (List Value)},Cls w l rows→∀ {l':List Cl} {rows':List (List Value)},Cls w l' rows'→Cls w (l ++ l') (rows ++ rows')
 | [],[],_,_,_,k=>k
 | _ :: _,_ :: _,h,_,_,k=>⟨h.1,Cls.app h.2 k⟩
 | [],_ :: _,h,_,_,_=>h.elim
 | _ :: _,[],h,_,_,_=>h.elim
theorem Cls.take:∀ {l:List Cl} {rows:List (List Value)},Cls w l rows→∀ k,Cls w (l.take k) (rows.take k)
 | [],[],_,k=>by cases k <;> trivial
 | _ :: _,_ :: _,_,0=>trivial
 | _ :: _,_ :: _,h,k+1=>⟨h.1,Cls.take h.2 k⟩
 | [],_ :: _,h,_=>h.elim
 | _ :: _,[],h,_=>h.elim
theorem Cls.drop:∀ {l:List Cl} {rows:List (List Value)},Cls w l rows→∀ k,Cls w (l.drop k) (rows.drop k)
 | [],[],_,k=>by cases k <;> trivial
 | _ :: _,_ :: _,h,0=>h
 | _ :: _,_ :: _,h,k+1=>Cls.drop h.2 k
 | [],_ :: _,h,_=>h.elim
 | _ :: _,[],h,_=>h.elim
theorem Cls.one_ (h:ClAt w x r):Cls w [x] [r]:=⟨h,trivial⟩
theorem Cls.del (h:Cls w l rows) (k:Nat):Cls w (delRows l k) (delRows rows k):=(h.take k).app (h.drop (k+1))
theorem Cls.set:∀ {l:List Cl} {rows:List (List Value)},Cls w l rows→∀ (k:Nat) {x:Cl} {r:List Value},ClAt w x r→Cls w (l.set k x) (rows.set k r)
 | [],[],_,k,_,_,_=>by cases k <;> trivial
 | _ :: _,_ :: _,h,0,_,_,hx=>⟨hx,h.2⟩
 | _ :: _,_ :: _,h,k+1,_,_,hx=>⟨h.1,Cls.set h.2 k hx⟩
 | [],_ :: _,h,_,_,_,_=>h.elim
 | _ :: _,[],h,_,_,_,_=>h.elim
structure CC (w:World) (b o:Nat) (x:Cl) (s:Value):Prop where
 c0:w.cell? ⟨b,o,none⟩=some (.int .i64 x.id)
 c1:w.cell? ⟨b,o+1,none⟩=some (.int .i64 x.seq)
 c2:w.cell? ⟨b,o+2,none⟩=some (.int .i64 x.time)
 c3:w.cell? ⟨b,o+3,none⟩=some (.int .i64 x.rep.code)
 c4:w.cell? ⟨b,o+4,none⟩=some (.string x.rep.text)
 c5:w.cell? ⟨b,o+5,none⟩=some (.int .i64 x.rep.n)
 c6:w.cell? ⟨b,o+6,none⟩=some s
theorem cli_at (h:Seg w 7 A rows) (he:Cls w l rows) {k:Nat} (hk:k<l.length) :
  ∃ b off Y m d,A=some ⟨b,off,none⟩∧b<w.heap.size∧CC w b (off+k*7) l[k] (.slice Y m d)∧TxSl w Y m d l[k].rep.list:=by
 obtain ⟨r,hr,Y,m,d,h1,h2⟩:=he.at_ hk
 obtain ⟨b,off,e1,hb,hc⟩:=h (by have:=List.length_pos_of_mem (List.mem_of_getElem? hr);exact this)
 have hc':∀ j u,r[j]?=some u→w.cell? ⟨b,off+k*7+j,none⟩=some u:=by
  intro j u hu
  rw [Nat.add_assoc]
  exact hc k r hr j u hu
 subst h1
 exact ⟨b,off,Y,m,d,e1,hb,⟨hc' 0 _ rfl,hc' 1 _ rfl,hc' 2 _ rfl,hc' 3 _ rfl,hc' 4 _ rfl,hc' 5 _ rfl,hc' 6 _ rfl⟩,h2⟩
def ClSl (w:World) (A:Option Addr) (n c:Nat) (l:List Cl):Prop:=∃ rows,Sl w 7 A n c rows∧Cls w l rows
theorem ClSl.len (h:ClSl w A n c l):l.length=n:=by obtain ⟨rows,h1,h2⟩:=h;rw [h2.len];exact h1.len
theorem ClSl.bl (h:ClSl w A n c l) (hb:Below w.heap.size w w'):ClSl w' A n c l:=by obtain ⟨rows,h1,h2⟩:=h;exact ⟨rows,h1.below hb,h2.fr (Fr.of hb)⟩
theorem ClSl.nil (w:World):ClSl w none 0 0 []:=⟨[],Sl.nil_ w 7,trivial⟩
theorem ClSl.at_ (h:ClSl w A n c l) {k:Nat} (hk:k<l.length) :
  ∃ b off Y m d,A=some ⟨b,off,none⟩∧b<w.heap.size∧CC w b (off+k*7) l[k] (.slice Y m d)∧TxSl w Y m d l[k].rep.list:=by
 obtain ⟨rows,h1,h2⟩:=h;exact cli_at h1.seg h2 hk
def ClOwn (w:World) (B:Nat) (A:Option Addr) (n c:Nat) (l:List Cl):Prop:=∃ rows,Own w B 104 7 (.slice A n c) rows∧Cls w l rows
theorem ClOwn.sl {B:Nat} (h:ClOwn w B A n c l):ClSl w A n c l:=by obtain ⟨rows,h1,h2⟩:=h;exact ⟨rows,h1.sl',h2⟩
theorem ClOwn.bl {B:Nat} (h:ClOwn w B A n c l) (hb:Below w.heap.size w w'):ClOwn w' B A n c l:=by obtain ⟨rows,h1,h2⟩:=h;exact ⟨rows,h1.below hb,h2.fr (Fr.of hb)⟩
theorem ClOwn.al {B:Nat} (h:ClOwn w B A n c l) (o:Obj):ClOwn (w.alloc o) B A n c l:=h.bl ((Below.refl _ w).alloc (Nat.le_refl _) o)
theorem ClOwn.dr {B:Nat} (h:ClOwn w B A n c l):ClOwn w.drew B A n c l:=h.bl (Below.refl _ w).drew
theorem ClOwn.mono {B B':Nat} (h:ClOwn w B A n c l) (hB:B'≤B):ClOwn w B' A n c l:=by obtain ⟨rows,h1,h2⟩:=h;exact ⟨rows,h1.mono hB,h2⟩
theorem ClOwn.grown {B:Nat} (h:ClOwn w B A n c l) (R:Blk w g t cs) (hg:w.grownBy w' (some g)) (h0:t≠104:=by decide) (h1:t≠137:=by decide) (h2:t≠9:=by decide) (h3:t≠139:=by decide):ClOwn w' B A n c l:=by
 obtain ⟨rows,k1,k2⟩:=h
 refine ⟨rows,⟨⟨k1.1.1,?_⟩,k1.2⟩,k2.fr (Fr.grown R hg h1 h2 h3)⟩
 rcases k1.1.2 with e|⟨b,cap,cur,e1,e2,e3,e4⟩
 ·exact .inl e
 ·exact .inr ⟨b,cap,cur,e1,e2,grown_blk (t:=104) e3 hg (blk_ne (t:=104) e3 R (Ne.symm h0)),e4⟩
structure Ci (w:World) (A:Option Addr) (n c:Nat) (l:List Cl):Prop where
 sl:ClSl w A n c l
 tp:Tp w A 104
theorem Ci.nil (w:World):Ci w none 0 0 []:=⟨ClSl.nil w,Tp.none_⟩
theorem Ci.bl (h:Ci w A n c l) (hb:Below w.heap.size w w'):Ci w' A n c l:=⟨h.sl.bl hb,h.tp.bl hb⟩
theorem Ci.al (h:Ci w A n c l) (o:Obj):Ci (w.alloc o) A n c l:=h.bl ((Below.refl _ w).alloc (Nat.le_refl _) o)
theorem Ci.dr (h:Ci w A n c l):Ci w.drew A n c l:=h.bl (Below.refl _ w).drew
theorem Ci.of {B:Nat} (h:ClOwn w B A n c l):Ci w A n c l:=⟨h.sl,by obtain ⟨rows,h1,_⟩:=h;exact own_tp h1⟩
theorem Ci.grown (h:Ci w A n c l) (R:Blk w g t cs) (hg:w.grownBy w' (some g)) (h0:104≠t:=by decide) (h1:t≠137:=by decide) (h2:t≠9:=by decide) (h3:t≠139:=by decide):Ci w' A n c l:=by
 refine ⟨?_,grown_tp h.tp R hg h0⟩
 obtain ⟨rows,k1,k2⟩:=h.sl
 exact ⟨rows,k1.far hg (h.tp.ne R h0),k2.fr (Fr.grown R hg h1 h2 h3)⟩
theorem TxSl.grown (h:TxSl w Y m d tx) (R:Blk w g t cs) (hg:w.grownBy w' (some g)) (h1:t≠137:=by decide) (h2:t≠9:=by decide) (h3:t≠139:=by decide):TxSl w' Y m d tx:=h.fr (Fr.grown R hg h1 h2 h3)
end
structure Mach where
 now:Int
 ents:List En
 next:Int
 clis:List Cl
structure CallM where
 client:Int
 seq:Int
 cmd:Cmd
def zeroMach:Mach:=⟨0,[],0,[]⟩
def idBad (l:List Cl):Nat→Cl→Bool
 | 0,_=>false
 | j+1,x=>match l[j]? with|none=>false|some y=>decide (x.id≤y.id)
def cliBad (now next:Int) (l:List Cl) (k:Nat):Bool:=match l[k]? with
 | none=>false
 | some x=>decide (x.id<1) || decide (next≤x.id) || idBad l k x || decide (x.seq<0) || decide (1048576<x.seq) || decide (x.time<0) || decide (now<x.time) || repOk x.rep != 0
def checkMach (m:Mach):Int:=if checkStore m.now m.ents≠0∨m.next<1∨1048577<m.next∨4<m.clis.length then 13 else if (List.range m.clis.length).any (cliBad m.now m.next m.clis)=true then 13 else 0
theorem mach_bad {m:Mach} {k:Nat} (hk:k<m.clis.length) (h:cliBad m.now m.next m.clis k=true):checkMach m=13:=by
 unfold checkMach
 split
 ·rfl
 ·rw [if_pos (List.any_eq_true.2 ⟨k,List.mem_range.2 hk,h⟩)]
theorem mach_good {m:Mach} (h0:¬ (checkStore m.now m.ents≠0∨m.next<1∨1048577<m.next∨4<m.clis.length)) (h:∀ k<m.clis.length,cliBad m.now m.next m.clis k=false):checkMach m=0:=by
 unfold checkMach
 rw [if_neg h0,if_neg]
 intro hc
 obtain ⟨k,hk,hb⟩:=List.any_eq_true.1 hc
 rw [h k (List.mem_range.1 hk)] at hb
 cases hb
structure ClOk (now next:Int) (x:Cl):Prop where
 id1:1≤x.id
 idn:x.id<next
 seq0:0≤x.seq
 seq1:x.seq≤1048576
 time0:0≤x.time
 time1:x.time≤now
 rep:repOk x.rep=0
structure MachOk (m:Mach):Prop where
 sto:StOk m.now m.ents
 next1:1≤m.next
 nextm:m.next≤1048577
 few:m.clis.length≤4
 cli:∀ x∈m.clis,ClOk m.now m.next x
 rise:m.clis.Pairwise (fun a b=>a.id<b.id)
theorem cliBad_at {now next:Int} {l:List Cl} {k:Nat} (hk:k<l.length):cliBad now next l k=(decide (l[k].id<1) || decide (next≤l[k].id) || idBad l k l[k] || decide (l[k].seq<0) || decide (1048576<l[k].seq) || decide (l[k].time<0) || decide (now<l[k].time) || repOk l[k].rep != 0):=by
 unfold cliBad;rw [List.getElem?_eq_getElem hk]
theorem ok_mach {m:Mach} (h:MachOk m):checkMach m=0:=by
 refine mach_good ?_ fun k hk=>?_
 ·rw [ok_store h.sto];have:=h.next1;have:=h.nextm;have:=h.few;omega
 ·rw [cliBad_at hk]
  have hx:=h.cli _ (List.getElem_mem hk)
  have hi:idBad m.clis k m.clis[k]=false:=by
   cases k with
   | zero=>rfl
   | succ j=>
    have hr:m.clis[j].id<m.clis[j+1].id:=List.pairwise_iff_getElem.1 h.rise j (j+1) (by omega) hk (by omega)
    simp only [idBad,List.getElem?_eq_getElem (show j<m.clis.length by omega),decide_eq_false_iff_not]
    omega
  obtain ⟨a,b,c,d,e,f,g⟩:=hx
  rw [hi,g]
  simp only [Bool.or_eq_false_iff,decide_eq_false_iff_not]
  (repeat' apply And.intro) <;> first|omega|trivial|rfl
theorem mach_ok {m:Mach} (h:checkMach m=0):MachOk m:=by
 unfold checkMach at h
 split at h
 ·cases h
 next h0=>
  split at h
  ·cases h
  next h1=>
   have hs:checkStore m.now m.ents=0:=Classical.byContradiction fun hc=>h0 (.inl hc)
   have hall:∀ k (hk:k<m.clis.length),ClOk m.now m.next m.clis[k]∧idBad m.clis k m.clis[k]=false:=by
    intro k hk
    have hf:cliBad m.now m.next m.clis k=false:=by
     cases he:cliBad m.now m.next m.clis k with
     | false=>rfl
     | true=>exact absurd (List.any_eq_true.2 ⟨k,List.mem_range.2 hk,he⟩) h1
    rw [cliBad_at hk] at hf
    simp only [Bool.or_eq_false_iff,decide_eq_false_iff_not,bne_eq_false_iff_eq] at hf
    obtain ⟨⟨⟨⟨⟨⟨⟨a,b⟩,i⟩,c⟩,d⟩,e⟩,f⟩,g⟩:=hf
    exact ⟨⟨by omega,by omega,by omega,by omega,by omega,by omega,g⟩,i⟩
   refine ⟨store_ok hs,by omega,by omega,by omega,fun x hx=>?_,chain_pair (fun a b c (h:a.id<b.id) (k:b.id<c.id)=>show a.id<c.id by omega) fun j hj=>?_⟩
   ·obtain ⟨k,hk,rfl⟩:=List.mem_iff_getElem.1 hx
    exact (hall k hk).1
   ·have:=(hall (j+1) hj).2
    simp only [idBad,List.getElem?_eq_getElem (show j<m.clis.length by omega),decide_eq_false_iff_not] at this
    omega
def oldest (l:List Cl):Nat→Nat
 | 0=>0
 | k+1=>if (l[k]?.map Cl.time).getD 0<(l[oldest l k]?.map Cl.time).getD 0 then k else oldest l k
theorem oldest_lt {l:List Cl}:∀ {k:Nat},k≤l.length→0<l.length→oldest l k<l.length
 | 0,_,h=>h
 | k+1,h,h0=>by
  unfold oldest
  split
  ·omega
  ·exact oldest_lt (by omega) h0
def openM (m:Mach):Mach×Re:=
 if 1048576<m.next then (m,failR 6)
 else (⟨m.now,m.ents,m.next+1,(if m.clis.length=4 then delRows m.clis (oldest m.clis m.clis.length) else m.clis) ++ [⟨m.next,0,m.now,zeroRe⟩]⟩,toldR m.next)
def doM (m:Mach) (c:CallM):Mach×Re:=
 if c.client=0 then openM m
 else match m.clis.findIdx? (fun x=>decide (x.id=c.client)) with
  | none=>(m,failR 11)
  | some i=>match m.clis[i]? with
   | none=>(m,failR 11)
   | some x=>
    if c.seq=x.seq then (m,x.rep)
    else if c.seq≠x.seq+1 then (m,failR 10)
    else (⟨m.now,(doS m.now m.ents c.cmd).1,m.next,m.clis.set i ⟨x.id,c.seq,m.now,(doS m.now m.ents c.cmd).2⟩⟩,(doS m.now m.ents c.cmd).2)
def laterM (m:Mach) (t:Int):Mach:=⟨t,alive t m.ents,m.next,m.clis⟩
def ccM (c:CallM):Int:=checkCall c.client c.seq c.cmd.kind c.cmd.key c.cmd.field c.cmd.text c.cmd.n
def applyM (m:Mach) (time:Int) (c:CallM):Mach×Re×Int:=
 if checkMach m≠0 then (zeroMach,zeroRe,checkMach m)
 else if time<0∨1073741824<time then (zeroMach,zeroRe,2)
 else if ccM c≠0 then (zeroMach,zeroRe,ccM c)
 else ((doM (laterM m (max m.now time)) c).1,(doM (laterM m (max m.now time)) c).2,0)
section
variable {m:Mach} {c:CallM} {t:Int}
theorem later_ok (h:MachOk m) (h0:m.now≤t) (h1:t≤1073741824):MachOk (laterM m t):=
 ⟨alive_ok h.sto h0 h1,h.next1,h.nextm,h.few,fun x hx=>by
  obtain ⟨a,b,c,d,e,f,g⟩:=h.cli x hx
  exact ⟨a,b,c,d,e,by show x.time≤t;omega,g⟩,h.rise⟩
theorem zero_rep:repOk zeroRe=0:=rep_ok zero_re
theorem open_ok (h:MachOk m):MachOk (openM m).1:=by
 unfold openM
 split
 ·exact h
 next hn=>
  have hl:∀ x∈(if m.clis.length=4 then delRows m.clis (oldest m.clis m.clis.length) else m.clis),x∈m.clis:=by
   intro x hx
   split at hx
   ·exact mem_del hx
   ·exact hx
  have hp:(if m.clis.length=4 then delRows m.clis (oldest m.clis m.clis.length) else m.clis).Pairwise (fun a b=>a.id<b.id):=by
   split
   ·exact del_pair h.rise
   ·exact h.rise
  have hlen:(if m.clis.length=4 then delRows m.clis (oldest m.clis m.clis.length) else m.clis).length≤3:=by
   split
   next h4=>
    have hk:=oldest_lt (l:=m.clis) (Nat.le_refl _) (by omega)
    rw [del_len' _ hk];omega
   next h4=>have:=h.few;omega
  generalize (if m.clis.length=4 then delRows m.clis (oldest m.clis m.clis.length) else m.clis)=L at *
  have h1:=h.next1
  have h0:=h.sto.now0
  refine ⟨h.sto,by show 1≤m.next+1;omega,by show m.next+1≤_;omega,by show (L ++ [_]).length≤4;simp;omega,fun x hx=>?_,?_⟩
  ·rcases List.mem_append.1 hx with hx|hx
   ·obtain ⟨a,b,c,d,e,f,g⟩:=h.cli x (hl x hx)
    exact ⟨a,by show x.id<m.next+1;omega,c,d,e,f,g⟩
   ·rw [List.mem_singleton] at hx
    subst hx
    exact ⟨h1,by show m.next<m.next+1;omega,by show (0:Int)≤0;omega,by show (0:Int)≤_;omega,h0,by show m.now≤m.now;omega,zero_rep⟩
  ·show (L ++ [_]).Pairwise _
   rw [List.pairwise_append]
   refine ⟨hp,by simp,fun a ha b hb=>?_⟩
   rw [List.mem_singleton] at hb
   subst hb
   exact (h.cli a (hl a ha)).idn
theorem cc_parts (hc:ccM c=0) (h0:c.client≠0):(1≤c.client∧c.client≤1048576)∧(1≤c.seq∧c.seq≤1048576)∧ccOf c.cmd=0:=by
 unfold ccM checkCall at hc
 rw [if_neg (by simpa using h0)] at hc
 split at hc
 ·cases hc
 next hn=>
  simp only [not_or,Bool.not_eq_false] at hn
  obtain ⟨a,b⟩:=hn
  unfold numberOk at a b
  simp only [Bool.and_eq_true,decide_eq_true_eq] at a b
  exact ⟨a,b,hc⟩
theorem do_okM (h:MachOk m) (hc:ccM c=0):MachOk (doM m c).1:=by
 unfold doM
 split
 ·exact open_ok h
 next h0=>
  obtain ⟨p1,p2,p3⟩:=cc_parts hc h0
  split
  ·exact h
  next i hi=>
   split
   ·exact h
   next x hx=>
    split
    ·exact h
    ·split
     ·exact h
     ·have hxm:=List.mem_of_getElem? hx
      have hil:i<m.clis.length:=by
       rcases Nat.lt_or_ge i m.clis.length with hl|hl
       ·exact hl
       ·rw [List.getElem?_eq_none hl] at hx;cases hx
      have hxi:x=m.clis[i]:=by rw [List.getElem?_eq_getElem hil] at hx;injection hx with hx;exact hx.symm
      obtain ⟨a,b,c',d,e,f,g⟩:=h.cli x hxm
      have n0:=h.sto.now0
      refine ⟨doS_ok h.sto p3,h.next1,h.nextm,by show (m.clis.set i _).length≤4;rw [List.length_set];exact h.few,fun y hy=>?_,?_⟩
      ·rcases List.mem_or_eq_of_mem_set hy with hy|hy
       ·exact h.cli y hy
       ·subst hy
        exact ⟨a,b,by show 0≤c.seq;omega,by show c.seq≤_;omega,n0,by show m.now≤m.now;omega,rep_ok (doS_rep h.sto p3)⟩
      ·have hr:=h.rise
       rw [List.pairwise_iff_getElem] at hr ⊢
       have hki:∀ j (hj:j<(m.clis.set i ⟨x.id,c.seq,m.now,(doS m.now m.ents c.cmd).2⟩).length),(m.clis.set i ⟨x.id,c.seq,m.now,(doS m.now m.ents c.cmd).2⟩)[j].id=(m.clis[j]'(by simpa using hj)).id:=by
        intro j hj
        rw [List.getElem_set]
        split
        next he=>subst he;exact (congrArg Cl.id hxi:x.id=_)
        next=>rfl
       intro j k hj hk hjk
       show (m.clis.set i _)[j].id<(m.clis.set i _)[k].id
       rw [hki,hki]
       exact hr j k (by simpa using hj) (by simpa using hk) hjk
theorem applyM_ok (h:MachOk m) (h0:0≤t) (h1:t≤1073741824) (hc:ccM c=0):applyM m t c=((doM (laterM m (max m.now t)) c).1,(doM (laterM m (max m.now t)) c).2,0):=by
 unfold applyM
 rw [if_neg (by rw [ok_mach h];simp),if_neg (by omega),if_neg (by rw [hc];simp)]
end
def seqStep (n off:Int) (s:Int) (x:Cl):Int:=if x.id=n then max (x.seq+1 - picked off 3 / 2) 1 else s
def seqOf (n off:Int) (l:List Cl):Int:=l.foldl (seqStep n off) 1
def zeroCall_:CallM:=⟨0,0,zeroCmd⟩
def callD (m:Mach) (d:DeedD):CallM:=if picked d.client 7=0 then zeroCall_ else ⟨picked d.client 7,seqOf (picked d.client 7) d.off m.clis,cmdR d.raw⟩
def stepM (m:Mach) (d:DeedD):Mach:=(doM (laterM m (m.now+picked d.wait 8)) (callD m d)).1
def newM:Mach:=⟨0,[],1,[]⟩
def machOf (l:List DeedD):Mach:=(l.take 40).foldl stepM newM
structure MInv (k:Nat) (m:Mach):Prop where
 ok:MachOk m
 now:m.now≤8*k
 next:m.next≤k+1
 seq:∀ x∈m.clis,x.seq≤k
section
variable {m:Mach} {c:CallM} {t:Int} {k:Nat}
theorem doM_now:(doM m c).1.now=m.now:=by
 unfold doM
 split
 ·unfold openM;split <;> rfl
 ·split
  ·rfl
  ·split
   ·rfl
   ·split
    ·rfl
    ·split <;> rfl
theorem doM_next:(doM m c).1.next≤m.next+1∧m.next≤(doM m c).1.next:=by
 unfold doM
 split
 ·unfold openM;split
  ·exact ⟨by show m.next≤_;omega,by show m.next≤m.next;omega⟩
  ·exact ⟨by show m.next+1≤_;omega,by show m.next≤m.next+1;omega⟩
 ·split
  ·exact ⟨by show m.next≤_;omega,by show m.next≤m.next;omega⟩
  ·split
   ·exact ⟨by show m.next≤_;omega,by show m.next≤m.next;omega⟩
   ·split
    ·exact ⟨by show m.next≤_;omega,by show m.next≤m.next;omega⟩
    ·split <;> exact ⟨by show m.next≤_;omega,by show m.next≤m.next;omega⟩
theorem open_mem {x:Cl} (hx:x∈(openM m).1.clis):x∈m.clis∨x.seq=0:=by
 unfold openM at hx
 split at hx
 ·exact .inl hx
 ·rcases List.mem_append.1 hx with hx|hx
  ·refine .inl ?_
   split at hx
   ·exact mem_del hx
   ·exact hx
  ·rw [List.mem_singleton] at hx;subst hx;exact .inr rfl
theorem doM_seq {s:Int} (h:∀ x∈m.clis,x.seq≤s) (h0:0≤s):∀ x∈(doM m c).1.clis,x.seq≤s+1:=by
 have hb:∀ x∈m.clis,x.seq≤s+1:=fun x hx=>by have:=h x hx;omega
 unfold doM
 split
 ·intro x hx
  rcases open_mem hx with hx|hx
  ·exact hb x hx
  ·omega
 ·split
  ·exact hb
  next i hi=>
   split
   ·exact hb
   next x hx=>
    split
    ·exact hb
    ·split
     ·exact hb
     next h1 h2=>
      intro y hy
      rcases List.mem_or_eq_of_mem_set hy with hy|hy
      ·exact hb y hy
      ·subst hy
       have:=h x (List.mem_of_getElem? hx)
       show c.seq≤_
       omega
theorem seq_in {n off s:Int}:∀ (l:List Cl),(∀ x∈l,0≤x.seq∧x.seq≤s)→∀ a:Int,1≤a→a≤s+1→1≤l.foldl (seqStep n off) a∧l.foldl (seqStep n off) a≤s+1
 | [],_,a,h1,h2=>⟨h1,h2⟩
 | x :: l,h,a,h1,h2=>by
  have p0:=picked_lo off 3 (by omega)
  have p1:=picked_hi off 3 (by omega)
  obtain ⟨x0,x1⟩:=h x (by simp)
  rw [List.foldl_cons]
  refine seq_in l (fun y hy=>h y (by simp [hy])) _ ?_ ?_
  ·unfold seqStep;split <;> omega
  ·unfold seqStep;split <;> omega
theorem zero_cc:ccM zeroCall_=0:=by
 unfold ccM checkCall zeroCall_
 simp only
 rw [if_pos (by decide),if_pos]
 unfold zeroCall zeroCmd
 simp [emp_list]
theorem cc_of {n s:Int} {cm:Cmd} (h1:1≤n) (h2:n≤1048576) (h3:1≤s) (h4:s≤1048576) (hc:ccOf cm=0):ccM ⟨n,s,cm⟩=0:=by
 unfold ccM checkCall
 simp only
 rw [if_neg (by simp;omega),if_neg,←hc]
 ·rfl
 ·unfold numberOk
  simp;omega
theorem callD_ok (h:MInv k m) (hk:k≤1000) (d:DeedD):ccM (callD m d)=0:=by
 unfold callD
 split
 ·exact zero_cc
 next hp=>
  have p0:=picked_lo d.client 7 (by omega)
  have p1:=picked_hi d.client 7 (by omega)
  have hs:=seq_in (n:=picked d.client 7) (off:=d.off) (s:=(k:Int)) m.clis (fun x hx=>⟨(h.ok.cli x hx).seq0,h.seq x hx⟩) 1 (by omega) (by omega)
  exact cc_of (by omega) (by omega) hs.1 (by have:=hs.2;unfold seqOf;omega) (cmd_ok _ _ _ _ _)
theorem do_inv (h:MInv k m) (hk:k≤1000) (h0:m.now≤t) (h1:t≤8*(k+1)) (hc:ccM c=0):MInv (k+1) (doM (laterM m t) c).1:=by
 have hl:=later_ok h.ok h0 (by omega)
 have hn:=doM_next (m:=laterM m t) (c:=c)
 have hx:=h.next
 refine ⟨do_okM hl hc,by rw [doM_now];show t≤_;omega,?_,?_⟩
 ·have e:(laterM m t).next=m.next:=rfl
  omega
 ·have:=doM_seq (m:=laterM m t) (c:=c) (s:=(k:Int)) (fun x hx=>h.seq x hx) (by omega)
  intro x hx
  have:=this x hx
  omega
theorem step_inv (h:MInv k m) (hk:k≤1000) (d:DeedD):MInv (k+1) (stepM m d):=by
 have p0:=picked_lo d.wait 8 (by omega)
 have p1:=picked_hi d.wait 8 (by omega)
 have:=h.now
 exact do_inv h hk (by omega) (by omega) (callD_ok h hk d)
theorem new_inv:MInv 0 newM:=⟨⟨nil_ok (by show (0:Int)≤0;omega) (by show (0:Int)≤_;omega),by show (1:Int)≤1;omega,by show (1:Int)≤_;omega,by show 0≤4;omega,(fun x hx=>absurd hx (by simp [newM])),List.Pairwise.nil⟩,by show (0:Int)≤0;omega,by show (1:Int)≤0+1;omega,(fun x hx=>absurd hx (by simp [newM]))⟩
theorem foldM_inv:∀ (l:List DeedD) {m:Mach} {k:Nat},MInv k m→k+l.length≤1000→MInv (k+l.length) (l.foldl stepM m)
 | [],_,_,h,_=>h
 | d :: l,m,k,h,hk=>by
  simp only [List.length_cons] at hk
  have:=foldM_inv l (step_inv h (by omega) d) (by omega)
  simp only [List.length_cons,List.foldl_cons]
  rw [show k+(l.length+1)=k+1+l.length by omega]
  exact this
theorem MInv.mono {k':Nat} (h:MInv k m) (hk:k≤k'):MInv k' m:=⟨h.ok,by have:=h.now;omega,by have:=h.next;omega,fun x hx=>by have:=h.seq x hx;omega⟩
theorem machOf_inv (l:List DeedD):MInv 40 (machOf l):=by
 have h:=foldM_inv (l.take 40) new_inv (by rw [List.length_take];omega)
 exact h.mono (by rw [List.length_take];omega)
theorem mach_step {l:List DeedD} {j:Nat} (hk:j<l.length) (h40:j<40) (h:Hid (machOf l=((l.take 40).drop j).foldl stepM m)):Hid (machOf l=((l.take 40).drop (j+1)).foldl stepM (stepM m l[j])):=by
 refine hide (h.out.trans ?_)
 rw [List.drop_eq_getElem_cons (show j<(l.take 40).length by rw [List.length_take];omega),List.foldl_cons,List.getElem_take]
theorem mach_end {l:List DeedD} {j:Nat} (hk:¬ (j<l.length∧j<40)) (h:Hid (machOf l=((l.take 40).drop j).foldl stepM m)):machOf l=m:=by
 refine h.out.trans ?_
 rw [List.drop_eq_nil_of_le (by rw [List.length_take];omega)];rfl
theorem apply_do (h:MachOk m) (h0:m.now≤t) (h1:t≤1073741824) (hc:ccM c=0):applyM m t c=((doM (laterM m t) c).1,(doM (laterM m t) c).2,0):=by
 have hn:=h.sto.now0
 have e:max m.now t=t:=by omega
 have:=applyM_ok h (t:=t) (by omega) h1 hc
 rw [e] at this
 exact this
end
end Go.Proofs.YtgmojjclobkpjaaGreatDoor


import Derived.Test.YtgmojjclobkpjaaGreatDoorQCheck
import Derived.Test.YtgmojjclobkpjaaGreatDoorQIns
import Derived.Test.YtgmojjclobkpjaaGreatDoorQBin
import Derived.Test.YtgmojjclobkpjaaGreatDoorQCommand
import Derived.Test.YtgmojjclobkpjaaGreatDoorQCmp
import Derived.Test.YtgmojjclobkpjaaGreatDoorQOwn
namespace Go.Proofs.YtgmojjclobkpjaaGreatDoor
set_option linter.all false
set_option maxHeartbeats 32000000
open Go.RowKit
section
variable {w w':World} {B g size size':Nat} {e e' t:TypeId} {s s':Value} {rows rows':List (List Value)} {cs:Array Value}
theorem own_typed (h:Own w B e size s rows) {k:Nat} (hk:s.ownBlock=some k):∃ cur,w.heap[k]?=some (.cells cur e (0,0)):=by
 rcases h.form with ⟨rfl,_⟩|⟨b,cap,rfl,_,_,_,cur,h3,_⟩
 ·simp [Value.ownBlock] at hk
 ·simp [Value.ownBlock] at hk;subst hk;exact ⟨cur,h3⟩
theorem own_other (h:Own w B e' size' s' rows') (ho:Own w B e size s rows) (hg:w.grownBy w' s.ownBlock) (hne:e'≠e:=by decide):Own w' B e' size' s' rows':=by
 refine ⟨⟨h.1.1,?_⟩,h.2⟩
 rcases h.1.2 with h1|⟨b,cap,cur,h1,h2,h3,h4⟩
 ·exact .inl h1
 ·have hl:b<w.heap.size:=by
   rcases Nat.lt_or_ge b w.heap.size with hl|hl
   ·exact hl
   ·rw [Array.getElem?_eq_none hl] at h3;cases h3
  refine .inr ⟨b,cap,cur,h1,h2,(hg.block b hl ?_).trans h3,h4⟩
  intro hb
  obtain ⟨cur',hc⟩:=own_typed ho hb.symm
  rw [h3] at hc
  injection hc with hc
  injection hc with _ hc
  exact hne hc
theorem blk_other (h:Blk w g t cs) (ho:Own w B e size s rows) (hg:w.grownBy w' s.ownBlock) (hne:t≠e:=by decide):Blk w' g t cs:=by
 refine (hg.block g h.lt ?_).trans h
 intro hb
 obtain ⟨cur',hc⟩:=own_typed ho hb.symm
 unfold Blk at h
 rw [h] at hc
 injection hc with hc
 injection hc with _ hc
 exact hne hc
theorem below_grown (ho:Own w B e size s rows) (hg:w.grownBy w' s.ownBlock) (hB:B≤w.heap.size):Below B w w':=
 (Below.refl B w).grown hg hB fun k hk=>(ho.1.lt k hk).1
end
structure Mov (B:Nat) (w w':World):Prop where
 bel:Below B w w'
 frm:∀ k t cs,Blk w k t cs→t≠96→t≠137→t≠9→t≠139→Blk w' k t cs
section
variable {w w' w'':World} {B g sz:Nat} {e t:TypeId} {s:Value} {rows:List (List Value)} {cs:Array Value}
theorem Mov.of (h:Below w.heap.size w w') (hB:B≤w.heap.size):Mov B w w':=⟨h.mono hB,fun _ _ _ hb _ _ _ _=>hb.below' h⟩
theorem Mov.trans (h:Mov B w w') (k:Mov B w' w''):Mov B w w'':=⟨h.bel.trans k.bel,fun b t cs hb h1 h2 h3 h4=>k.frm b t cs (h.frm b t cs hb h1 h2 h3 h4) h1 h2 h3 h4⟩
theorem Mov.alloc (h:Mov B w w') (hB:B≤w'.heap.size) (o:Obj):Mov B w (w'.alloc o):=⟨h.bel.alloc hB o,fun b t cs hb h1 h2 h3 h4=>(h.frm b t cs hb h1 h2 h3 h4).alloc o⟩
theorem Mov.drew (h:Mov B w w'):Mov B w w'.drew:=⟨h.bel.drew,fun b t cs hb h1 h2 h3 h4=>(h.frm b t cs hb h1 h2 h3 h4).drew⟩
theorem Mov.size (h:Mov B w w'):w.heap.size≤w'.heap.size:=h.bel.size
theorem blk_ne {b:Nat} {t':TypeId} {cs':Array Value} (h:Blk w b t cs) (k:Blk w g t' cs') (hne:t≠t'):b≠g:=by
 rintro rfl
 unfold Blk at h k
 rw [h] at k
 injection k with k
 injection k with _ k
 exact hne k
theorem Mov.setV (h:Mov B w w') (G:Blk w' g 96 cs) (hg:B≤g) (i:Nat) (u:Value):Mov B w (w'.setCell ⟨g,i,none⟩ u):=
 ⟨h.bel.setCell hg u,fun b t cs hb h1 h2 h3 h4=>(h.frm b t cs hb h1 h2 h3 h4).far (by simpa using blk_ne (h.frm b t cs hb h1 h2 h3 h4) G h1) u⟩
theorem Mov.setN (h:Mov B w w') {b:Nat} (hb:B≤b) (hn:w.heap.size≤b) (i:Nat) (u:Value):Mov B w (w'.setCell ⟨b,i,none⟩ u):=
 ⟨h.bel.setCell hb u,fun k t cs hk h1 h2 h3 h4=>(h.frm k t cs hk h1 h2 h3 h4).far (by have:=hk.lt;simp;omega) u⟩
theorem Mov.setP {n c:Nat} {rws:List (List Value)} {b:Nat} (h:Mov B w w') (ho:Own w' B 137 2 (.slice (some ⟨b,0,none⟩) n c) rws) (i:Nat) (u:Value):Mov B w (w'.setCell ⟨b,i,none⟩ u):=by
 obtain ⟨cur,hcur⟩:=own_typed ho (k:=b) rfl
 exact ⟨h.bel.setCell (ho.1.lt b rfl).1 u,fun k t cs hk h1 h2 h3 h4=>(h.frm k t cs hk h1 h2 h3 h4).far (by simpa using blk_ne (h.frm k t cs hk h1 h2 h3 h4) (show Blk w' b 137 cur from hcur) h2) u⟩
theorem mov_grown (ho:Own w B e sz s rows) (hg:w.grownBy w' s.ownBlock) (hB:B≤w.heap.size) (he:e=137∨e=9∨e=139:=by decide):Mov B w w':=
 ⟨below_grown ho hg hB,fun k t cs hk h1 h2 h3 h4=>blk_other hk ho hg (by rintro rfl;rcases he with rfl|rfl|rfl <;> contradiction)⟩
theorem mov_post {a b c:World} (h:Mov B a b) (hB:B≤b.heap.size) (k:Below b.heap.size b c):Mov B a c:=h.trans (Mov.of k hB)
def Typ (w:World) (k:Nat) (t:TypeId):Prop:=∃ cs,Blk w k t cs
theorem Typ.set {k:Nat} (h:Typ w k t) (b i:Nat) (u:Value):Typ (w.setCell ⟨b,i,none⟩ u) k t:=by
 obtain ⟨cs,h⟩:=h
 by_cases hp:k=b
 ·subst hp
  exact ⟨_,h.set' rfl⟩
 ·exact ⟨cs,h.far (by simpa using hp) u⟩
theorem Typ.bl {k:Nat} (h:Typ w k t) (hb:Below w.heap.size w w'):Typ w' k t:=by
 obtain ⟨cs,h⟩:=h
 exact ⟨cs,h.below' hb⟩
def Tp (w:World) (A:Option Addr) (t:TypeId):Prop:=∀ a,A=some a→Typ w a.block t
theorem Tp.set {A:Option Addr} (h:Tp w A t) (b i:Nat) (u:Value):Tp (w.setCell ⟨b,i,none⟩ u) A t:=fun a ha=>(h a ha).set b i u
theorem Tp.bl {A:Option Addr} (h:Tp w A t) (hb:Below w.heap.size w w'):Tp w' A t:=fun a ha=>(h a ha).bl hb
theorem Tp.none_:Tp w none t:=fun _ h=>by cases h
theorem own_tp {A:Option Addr} {n c:Nat} (h:Own w B e sz (.slice A n c) rows):Tp w A e:=by
 rintro a rfl
 rcases h.form with ⟨hv,_⟩|⟨b,cap,hv,_⟩
 ·cases hv
 ·injection hv with e1 _ _
  injection e1 with e1
  subst e1
  obtain ⟨cur,hc⟩:=own_typed h (k:=b) rfl
  exact ⟨cur,hc⟩
theorem Tp.ne {A:Option Addr} {b:Nat} {t':TypeId} (h:Tp w A t) (hb:Blk w b t' cs) (hne:t≠t':=by decide):∀ a,A=some a→a.block≠b:=fun a ha=>by
 obtain ⟨cs',h⟩:=h a ha
 exact blk_ne h hb hne
end
structure Re where
 code:Int
 text:ByteArray
 n:Int
 list:List ByteArray
def toldR (n:Int):Re:=⟨0,emp,n,[]⟩
def failR (e:Int):Re:=⟨e,emp,0,[]⟩
def textR (s:ByteArray):Re:=⟨0,s,0,[]⟩
def DoPost (v:Va) (r:Re) (B g:Nat) (w:World) (e:Ending) (w':World):Prop:=
 ∃ A1 n1 c1 A2 n2 c2 A3 n3 c3 A4 n4 c4,e = .returned (.agg #[.int .i64 r.code,.string r.text,.int .i64 r.n,.slice A4 n4 c4]) ∧
  Blk w' g 96 #[.int .i64 v.kind,.string v.text,.int .i64 v.count,.slice A1 n1 c1,.slice A2 n2 c2,.slice A3 n3 c3]∧VSl w' v A1 n1 c1 A2 n2 c2 A3 n3 c3∧Sl w' 1 A4 n4 c4 (strRows r.list)∧(Tp w' A1 137∧Tp w' A2 9∧Tp w' A3 139∧Tp w' A4 9)∧Mov B w w'
theorem VNew.sl {w:World} {B:Nat} {v:Va} {A1 A2 A3:Option Addr} {n1 c1 n2 c2 n3 c3:Nat} (h:VNew w B v (.slice A1 n1 c1) (.slice A2 n2 c2) (.slice A3 n3 c3)):VSl w v A1 n1 c1 A2 n2 c2 A3 n3 c3:=⟨h.1.sl',h.2.1.sl',h.2.2.sl'⟩
theorem VNew.bl {w w':World} {B:Nat} {v:Va} {s1 s2 s3:Value} (h:VNew w B v s1 s2 s3) (hb:Below w.heap.size w w'):VNew w' B v s1 s2 s3:=⟨h.1.below hb,h.2.1.below hb,h.2.2.below hb⟩
theorem VNew.al {w:World} {B:Nat} {v:Va} {s1 s2 s3:Value} (h:VNew w B v s1 s2 s3) (o:Obj):VNew (w.alloc o) B v s1 s2 s3:=⟨h.1.alloc o,h.2.1.alloc o,h.2.2.alloc o⟩
theorem VNew.dr {w:World} {B:Nat} {v:Va} {s1 s2 s3:Value} (h:VNew w B v s1 s2 s3):VNew w.drew B v s1 s2 s3:=h
theorem VNew.st' {w:World} {B g:Nat} {v:Va} {s1 s2 s3:Value} {cs:Array Value} {t:TypeId} (h:VNew w B v s1 s2 s3) (hb:Blk w g t cs) (i:Nat) (u:Value) (h1:t≠137:=by decide) (h2:t≠9:=by decide) (h3:t≠139:=by decide):VNew (w.setCell ⟨g,i,none⟩ u) B v s1 s2 s3:=
 ⟨own_far h.1 hb i u h1,own_far h.2.1 hb i u h2,own_far h.2.2 hb i u h3⟩
theorem own_not {w:World} {B b g size:Nat} {e t:TypeId} {n c:Nat} {rows:List (List Value)} {cs:Array Value} (h:Own w B e size (.slice (some ⟨b,0,none⟩) n c) rows) (hb:Blk w g t cs) (hne:t≠e:=by decide):b≠g:=by
 intro he;subst he
 obtain ⟨cur,hcur⟩:=own_typed h (k:=b) rfl
 unfold Blk at hb;rw [hcur] at hb;injection hb with hb;injection hb with _ hb;exact hne hb.symm
theorem re_done {w w2:World} {v:Va} {B g b:Nat} {A1 A2 A3:Option Addr} {n1 c1 n2 c2 n3 c3:Nat} {k0 m0:Int} {t0:ByteArray} {x0 x1 x2 x3:Value}
  (G:Blk w2 g 96 #[.int .i64 v.kind,.string v.text,.int .i64 v.count,.slice A1 n1 c1,.slice A2 n2 c2,.slice A3 n3 c3]) (R:Blk w2 b 102 #[x0,x1,x2,x3]) (N:VNew w2 B v (.slice A1 n1 c1) (.slice A2 n2 c2) (.slice A3 n3 c3))
  (q:Mov B w w2) (hb:B≤b) (hgb:g≠b) (hbw:w.heap.size≤b) :
  DoPost v ⟨k0,t0,m0,[]⟩ B g w (.returned (.agg #[.int .i64 k0,.string t0,.int .i64 m0,.slice none 0 0])) ((((w2.setCell ⟨b,0,none⟩ (.int .i64 k0)).setCell ⟨b,1,none⟩ (.string t0)).setCell ⟨b,2,none⟩ (.int .i64 m0)).setCell ⟨b,3,none⟩ (.slice none 0 0)) ∧
  Blk ((((w2.setCell ⟨b,0,none⟩ (.int .i64 k0)).setCell ⟨b,1,none⟩ (.string t0)).setCell ⟨b,2,none⟩ (.int .i64 m0)).setCell ⟨b,3,none⟩ (.slice none 0 0)) b 102 #[.int .i64 k0,.string t0,.int .i64 m0,.slice none 0 0]:=by
 have R1:=R.set' (i:=0) (u:=.int .i64 k0) rfl
 have R2:=R1.set' (i:=1) (u:=.string t0) rfl
 have R3:=R2.set' (i:=2) (u:=.int .i64 m0) rfl
 have R4:=R3.set' (i:=3) (u:=.slice none 0 0) rfl
 have N4:=(((N.st' R 0 (.int .i64 k0)).st' R1 1 (.string t0)).st' R2 2 (.int .i64 m0)).st' R3 3 (.slice none 0 0)
 refine ⟨⟨A1,n1,c1,A2,n2,c2,A3,n3,c3,none,0,0,rfl,?_,N4.sl,Sl.nil_ _ _,⟨own_tp N4.1,own_tp N4.2.1,own_tp N4.2.2,Tp.none_⟩,?_⟩,R4⟩
 ·exact (((G.far (by simpa using hgb) _).far (by simpa using hgb) _).far (by simpa using hgb) _).far (by simpa using hgb) _
 ·exact (((q.setN hb hbw 0 _).setN hb hbw 1 _).setN hb hbw 2 _).setN hb hbw 3 _
theorem told_any (n:Int) (w:World):Calls Tryz.prog 153 #[.int .i64 n] w fun e w'=>e = .returned (.agg #[.int .i64 0,.string emp,.int .i64 n,.slice none 0 0])∧Below w.heap.size w w':=by
 go_enter Tryz.func153,Tryz.ntmps153
 go_wp2_with fail
 refine bodyPost_ret (v:=.agg #[.int .i64 0,.string emp,.int .i64 n,.slice none 0 0]) ?_ rfl ⟨rfl,below_by⟩
 simp [results,Tryz.results153,go_sem,emp]
theorem failed_any (k:Int) (w:World):Calls Tryz.prog 147 #[.int .i64 k] w fun e w'=>e = .returned (.agg #[.int .i64 k,.string emp,.int .i64 0,.slice none 0 0])∧Below w.heap.size w w':=by
 go_enter Tryz.func147,Tryz.ntmps147
 go_wp2_with fail
 refine bodyPost_ret (v:=.agg #[.int .i64 k,.string emp,.int .i64 0,.slice none 0 0]) ?_ rfl ⟨rfl,below_by⟩
 simp [results,Tryz.results147,go_sem,emp]
def flagI (b:Bool):Int:=if b then 1 else 0
theorem flag_any (b:Bool) (w:World):Calls Tryz.prog 164 #[.bool b] w fun e w'=>e = .returned (.int .i64 (flagI b))∧w=w':=by
 cases b
 all_goals go_enter Tryz.func164,Tryz.ntmps164
 all_goals go_wp2_with fail
 all_goals go_ret
 all_goals exact ⟨rfl,rfl⟩
def kindC (k:Int):Int:=
 if k=2 then 1 else if k=3 then 2 else if k=4∨k=5∨k=6 then 3 else if k=7∨k=8∨k=9∨k=10 then 4 else if k=11∨k=12∨k=13 then 5 else if k=14∨k=15∨k=16 then 6 else 0
def makesC (k:Int):Bool:=k == 1 || k == 3 || k == 4 || k == 7 || k == 8 || k == 11 || k == 14
theorem kindOf_any (k:Int) (w:World):Calls Tryz.prog 145 #[.int .i64 k] w fun e w'=>e = .returned (.int .i64 (kindC k))∧w=w':=by
 go_enter Tryz.func145,Tryz.ntmps145
 go_wp2_with fail
 all_goals go_ret
 all_goals refine ⟨ret_int ?_,rfl⟩
 all_goals (unfold kindC;simp_all)
theorem makes_any (k:Int) (w:World):Calls Tryz.prog 146 #[.int .i64 k] w fun e w'=>e = .returned (.bool (makesC k))∧w=w':=by
 go_enter Tryz.func146,Tryz.ntmps146
 go_wp2_with fail
 all_goals go_ret
 all_goals refine ⟨ret_bool ?_,rfl⟩
 all_goals (unfold makesC;simp_all)
def allOf (v:Va):List ByteArray:=v.items ++ v.pairs.map (·.field) ++ v.scores.map (·.member)
theorem strRows_snoc (l:List ByteArray) (s:ByteArray):strRows (l ++ [s])=strRows l ++ [(#[Value.string s]:Array Value).toList]:=by simp [strRows]
theorem map_step {α:Type} {f:α→ByteArray} {l:List α} {base done:List ByteArray} {k:Nat} (h:k<l.length) (hd:Hid (base ++ l.map f=done ++ (l.drop k).map f)):Hid (base ++ l.map f=(done ++ [f l[k]]) ++ (l.drop (k+1)).map f):=by
 show _=_
 rw [hd.out,List.drop_eq_getElem_cons h,List.map_cons,List.append_assoc]
 rfl
theorem map_end {α:Type} {f:α→ByteArray} {l:List α} {base done:List ByteArray} (hd:Hid (base ++ l.map f=done ++ (l.drop l.length).map f)):base ++ l.map f=done:=by
 have:=hd.out
 simpa using this
def AllPost (l:List ByteArray) (w:World) (e:Ending) (w':World):Prop:=
 ∃ A n c,e = .returned (.slice A n c)∧Own w' w.heap.size 9 1 (.slice A n c) (strRows l)∧Below w.heap.size w w'
theorem all_any (v:Va) (A1 A2 A3:Option Addr) (n1 c1 n2 c2 n3 c3:Nat) (w:World) (h:VSl w v A1 n1 c1 A2 n2 c2 A3 n3 c3) (l1:n1≤1024) (l2:n2≤1024) (l3:n3≤1024) :
  Calls Tryz.prog 154 #[.agg #[.int .i64 v.kind,.string v.text,.int .i64 v.count,.slice A1 n1 c1,.slice A2 n2 c2,.slice A3 n3 c3]] w (AllPost (allOf v) w):=by
 obtain ⟨kind,text,count,ps,is_,ss⟩:=v
 simp only
 have e1:=h.n1_;have e2:=h.n2_;have e3:=h.n3_
 simp only at e1 e2 e3
 have hal:allOf ⟨kind,text,count,ps,is_,ss⟩=is_ ++ ps.map (·.field) ++ ss.map (·.member):=rfl
 obtain ⟨R,hR⟩:∃ R,R=allOf ⟨kind,text,count,ps,is_,ss⟩:=⟨_,rfl⟩
 rw [←hR]
 rw [hal] at hR
 have HR:=hide hR
 clear hR hal
 have hp:=h.p;have hi:=h.i;have hs:=h.s
 clear h
 subst e1;subst e3
 have E2:=hide e2
 clear e2
 have hB:Blk (w.alloc (.cells #[.int .i64 kind,.string text,.int .i64 count,.slice A1 ps.length c1,.slice A2 n2 c2,.slice A3 ss.length c3] 96)) w.heap.size 96 #[.int .i64 kind,.string text,.int .i64 count,.slice A1 ps.length c1,.slice A2 n2 c2,.slice A3 ss.length c3]:=Blk.new _ _ _
 go_enter Tryz.func154,Tryz.ntmps154
 go_wp2_with fail
 ((with_reducible refine (Clone_text _ _ _ _ _ (hi.alloc _) (str_one _) (by omega)).mono ?_);rintro e w1 ⟨s1,rfl,o1,b1⟩)
 have B1:=hB.below' b1
 have q1:Below w.heap.size w w1:=bstep below_by b1
 replace o1:=o1.mono (base':=w.heap.size+1) (by simp)
 (try clear cB1 fB1);have cB1:=B1.cell;have fB1:=B1.frozen
 go_wp2_with fail
 go_loopw [3,14] (fun s t wr=>∃ (k:Nat) (done:List ByteArray),k≤ps.length∧t = .int .i64 k∧Own wr (w.heap.size+1) 9 1 s (strRows done)∧Hid (is_ ++ ps.map (·.field)=done ++ (ps.drop k).map (·.field))∧Hid (done.length=n2+k) ∧
  Blk wr w.heap.size 96 #[.int .i64 kind,.string text,.int .i64 count,.slice A1 ps.length c1,.slice A2 n2 c2,.slice A3 ss.length c3]∧Below w.heap.size w wr) (fun _ t _=>ps.length - (intOf t).toNat)
 case atStart=>exact ⟨0,is_,by omega,rfl,o1,rfl,E2.out,B1,q1⟩
 case round=>
  clear cB1 fB1 B1 q1 o1 b1
  obtain ⟨k,done,hk,rfl,hown,HQ,HL,BR,qr⟩:=hrel
  have hbs:=qr.size
  by_cases hlt:k<ps.length
  ·obtain ⟨b,off,rfl,hbb,p0,p1⟩:=(hp.below qr).seg.pair hlt
   have HQ':=map_step hlt HQ
   generalize ps[k]=y at p0 p1 HQ'
   have hz1:(0:Int)≤k:=by omega
   have hz2:(k:Int)<ps.length:=by omega
   go_wp2_with (at_builtin;refine wpList_push rfl _ _ _ rfl Tryz.underlying93 text_info rfl (by decide) (by rfl) (hown.alloc _) (H:=wr.heap.size+1) (by simp) (by rfl) (row:=#[.string y.field]) rfl (by intro u hu;simp at hu;subst hu;rfl) ?_ ?_ ?_ ?_)
   ·simp only [strRows,List.length_map,HL.out];unfold maxLen;omega
   ·simp only [strRows,List.length_map,HL.out];omega
   ·intro v' w2 hown2 hb2 hz3
    have hown3:Own w2 (w.heap.size+1) 9 1 v' (strRows (done ++ [y.field])):=by rw [strRows_snoc];exact hown2
    have HL':Hid ((done ++ [y.field]).length=n2+(k+1)):=by show _=_;rw [List.length_append,HL.out];simp;omega
    have BR2:=(BR.alloc (.cells #[.string y.field,.string y.text] 137)).below hb2 (Nat.lt_succ_self _)
    have qr2:Below w.heap.size w w2:=(qr.alloc hbs (.cells #[.string y.field,.string y.text] 137)).trans (hb2.mono (Nat.le_succ _))
    go_wp2_with fail
    go_roundw
    case rel=>exact ⟨k+1,_,by omega,by go_num,hown3,HQ',HL',BR2,qr2⟩
    case measure=>simp [intOf];omega
  ·obtain rfl:k=ps.length:=by omega
   have HE:=hide (map_end HQ)
   clear HQ
   have hzr:w.heap.size<wr.heap.size:=BR.lt
   (try clear cBR fBR);have cBR:=BR.cell;have fBR:=BR.frozen
   go_wp2_with fail
   go_loopw [3,27] (fun s t wr=>∃ (k:Nat) (done:List ByteArray),k≤ss.length∧t = .int .i64 k∧Own wr (w.heap.size+1) 9 1 s (strRows done)∧Hid ((is_ ++ ps.map (·.field)) ++ ss.map (·.member)=done ++ (ss.drop k).map (·.member))∧Hid (done.length=n2+ps.length+k) ∧
    Blk wr w.heap.size 96 #[.int .i64 kind,.string text,.int .i64 count,.slice A1 ps.length c1,.slice A2 n2 c2,.slice A3 ss.length c3]∧Below w.heap.size w wr) (fun _ t _=>ss.length - (intOf t).toNat)
   case atStart=>exact ⟨0,done,by omega,rfl,hown,by show _=_;rw [HE.out];rfl,HL.out,BR,qr⟩
   case round=>
    clear cBR fBR BR qr hown hbs hzr HE HL
    obtain ⟨k,done,hk,rfl,hown,HQ,HL,BR,qr⟩:=hrel
    have hbs:=qr.size
    by_cases hlt:k<ss.length
    ·obtain ⟨b,off,rfl,hbb,p0,p1⟩:=(hs.below qr).seg.score hlt
     have HQ':=map_step hlt HQ
     generalize ss[k]=y at p0 p1 HQ'
     have hz1:(0:Int)≤k:=by omega
     have hz2:(k:Int)<ss.length:=by omega
     go_wp2_with (at_builtin;refine wpList_push rfl _ _ _ rfl Tryz.underlying93 text_info rfl (by decide) (by rfl) (hown.alloc _) (H:=wr.heap.size+1) (by simp) (by rfl) (row:=#[.string y.member]) rfl (by intro u hu;simp at hu;subst hu;rfl) ?_ ?_ ?_ ?_)
     ·simp only [strRows,List.length_map,HL.out];unfold maxLen;omega
     ·simp only [strRows,List.length_map,HL.out];omega
     ·intro v' w2 hown2 hb2 hz3
      have hown3:Own w2 (w.heap.size+1) 9 1 v' (strRows (done ++ [y.member])):=by rw [strRows_snoc];exact hown2
      have HL':Hid ((done ++ [y.member]).length=n2+ps.length+(k+1)):=by show _=_;rw [List.length_append,HL.out];simp;omega
      have BR2:=(BR.alloc (.cells #[.string y.member,.int .i64 y.n] 139)).below hb2 (Nat.lt_succ_self _)
      have qr2:Below w.heap.size w w2:=(qr.alloc hbs (.cells #[.string y.member,.int .i64 y.n] 139)).trans (hb2.mono (Nat.le_succ _))
      go_wp2_with fail
      go_roundw
      case rel=>exact ⟨k+1,_,by omega,by go_num,hown3,HQ',HL',BR2,qr2⟩
      case measure=>simp [intOf];omega
    ·obtain rfl:k=ss.length:=by omega
     have HE:=hide (map_end HQ)
     clear HQ
     obtain ⟨A',n',c',rfl⟩:=own_slice hown
     go_wp2_with fail
     go_ret
     exact ⟨_,_,_,rfl,by rw [HR.out,HE.out];exact hown.mono (Nat.le_succ _),qr⟩
attribute [local go_sem ↓] Go.wp_at_zero Go.wp_at_succ
def pairHas (f:ByteArray) (l:List Pr):Bool:=foundAt l (pairAt f l) fun y=>cmpB y.field f == 0
def pairText (l:List Pr) (k:Nat):ByteArray:=match l[k]? with|some y=>y.text|none=>emp
def doHash (v:Va) (c:Cmd):Va×Re:=
 if c.kind=4 then
  (if pairHas c.field v.pairs=true then ({ v with pairs:=v.pairs.set (pairAt c.field v.pairs) ⟨c.field,c.text⟩ },toldR 0)
   else if v.pairs.length=20 then (v,failR 6) else ({ v with pairs:=insRows v.pairs (pairAt c.field v.pairs) ⟨c.field,c.text⟩ },toldR 1))
 else if c.kind=5 then (if pairHas c.field v.pairs=true then (v,textR (pairText v.pairs (pairAt c.field v.pairs))) else (v,failR 5))
 else if pairHas c.field v.pairs=true then ({ v with pairs:=delRows v.pairs (pairAt c.field v.pairs) },toldR 1) else (v,toldR 0)
theorem pairHas_lt {f:ByteArray} {l:List Pr} (h:pairHas f l=true):pairAt f l<l.length:=by
 rcases Nat.lt_or_ge (pairAt f l) l.length with h'|h'
 ·exact h'
 ·unfold pairHas at h;rw [foundAt_ge h'] at h;cases h
theorem pairHas_eq {f:ByteArray} {l:List Pr} (h:pairHas f l=true):(l[pairAt f l]'(pairHas_lt h)).field=f:=by
 have h2:=h
 unfold pairHas at h2
 rw [foundAt_lt (pairHas_lt h)] at h2
 rw [←cmpB_eq];simpa using h2
theorem grown_setRow_cell (w:World) (b i:Nat) (u:Value):w.grownBy (w.setCell ⟨b,i,none⟩ u) (some b):=
 ⟨rfl,rfl,rfl,by simp,fun k _ hk=>Below.heap_setCell w ⟨b,i,none⟩ u k (fun e=>hk (by simp [e]))⟩
theorem pairHas_get {f:ByteArray} {l:List Pr} (h:pairHas f l=true):∃ y,l[pairAt f l]?=some y∧y.field=f:=⟨_,List.getElem?_eq_getElem (pairHas_lt h),pairHas_eq h⟩
set_option maxRecDepth 100000 in
theorem hash_any (v:Va) (c:Cmd) (B g:Nat) (A1 A2 A3:Option Addr) (n1 c1 n2 c2 n3 c3:Nat) (w:World) (hG:Blk w g 96 #[.int .i64 v.kind,.string v.text,.int .i64 v.count,.slice A1 n1 c1,.slice A2 n2 c2,.slice A3 n3 c3])
  (hN:VNew w B v (.slice A1 n1 c1) (.slice A2 n2 c2) (.slice A3 n3 c3)) (hg:B≤g) (hBw:B≤w.heap.size) (hn:n1≤20) (hr:risesBy (fun a b:Pr=>cmpB a.field b.field) v.pairs=true) (hk:c.kind=4∨c.kind=5∨c.kind=6) :
  Calls Tryz.prog 155 #[.pointer (some ⟨g,0,none⟩),.agg #[.int .i64 c.kind,.string c.key,.string c.field,.string c.text,.int .i64 c.n]] w (DoPost (doHash v c).1 (doHash v c).2 B g w):=by
 have hlen:v.pairs.length=n1:=hN.sl.n1_
 obtain ⟨D,hD⟩:∃ D,D=doHash v c:=⟨_,rfl⟩
 rw [←hD]
 obtain ⟨kind,key,field,text,n⟩:=c
 obtain ⟨vk,vt,vc,ps,is_,ss⟩:=v
 simp only at hlen hG hN hr hk ⊢
 have hbin:=fun wz (hz:Below w.heap.size w wz)=>Bin_pair A1 n1 c1 (pairAt field ps) ps ⟨field,{ data:=#[] }⟩ wz hlen (by omega) (hN.1.sl'.below hz).seg (lowB_le _ _) pair_h1 (pair_h2 hr)
 have hb0:(foundAt ps (pairAt field ps) fun y=>cmpB y.field field == 0)=pairHas field ps:=rfl
 simp only [hb0] at hbin
 have heq:=@pairHas_get field ps
 have hple:=lowB_le (fun y:Pr=>decide (cmpB y.field field<0)) ps
 have hple:pairAt field ps≤ps.length:=hple
 unfold doHash at hD
 simp only at hD
 generalize hix:pairAt field ps=ix at *
 generalize pairHas field ps=has at *
 have HD:=hide hD;have HB:=hide hbin;have HL:=hide hlen;have HQ:=hide heq
 clear hD hbin hb0 hlen heq hix
 have hgl:=hG.lt
 have hG1:=hG.alloc (.cells #[.int .i64 kind,.string key,.string field,.string text,.int .i64 n] 31)
 have hC1:=Blk.new w 31 #[.int .i64 kind,.string key,.string field,.string text,.int .i64 n]
 have hC1':=hC1.alloc (.cells #[.int .i64 0,.string { data:=#[] },.int .i64 0,.slice none 0 0] 102)
 have hG1':=hG1.alloc (.cells #[.int .i64 0,.string { data:=#[] },.int .i64 0,.slice none 0 0] 102)
 have hN1:=(hN.al (.cells #[.int .i64 kind,.string key,.string field,.string text,.int .i64 n] 31)).al (.cells #[.int .i64 0,.string { data:=#[] },.int .i64 0,.slice none 0 0] 102)
 have q1:Below w.heap.size w ((w.alloc (.cells #[.int .i64 kind,.string key,.string field,.string text,.int .i64 n] 31)).alloc (.cells #[.int .i64 0,.string { data:=#[] },.int .i64 0,.slice none 0 0] 102)):=below_by
 have hR1:Blk ((w.alloc (.cells #[.int .i64 kind,.string key,.string field,.string text,.int .i64 n] 31)).alloc (.cells #[.int .i64 0,.string { data:=#[] },.int .i64 0,.slice none 0 0] 102)) (w.heap.size+1) 102 #[.int .i64 0,.string { data:=#[] },.int .i64 0,.slice none 0 0]:=Blk.new' _ _ _ (by simp)
 (try clear chG1' fhG1');have chG1':=hG1'.cell;have fhG1':=hG1'.frozen;(try clear chC1' fhC1');have chC1':=hC1'.cell;have fhC1':=hC1'.frozen
 go_enter Tryz.func155,Tryz.ntmps155
 go_upto_region 1 with fail
 go_cut [5,6] (fun s t wx=>s = .int .i64 (ix:Int)∧t = .bool has∧Blk wx g 96 #[.int .i64 vk,.string vt,.int .i64 vc,.slice A1 n1 c1,.slice A2 n2 c2,.slice A3 n3 c3]∧Blk wx w.heap.size 31 #[.int .i64 kind,.string key,.string field,.string text,.int .i64 n] ∧
  Blk wx (w.heap.size+1) 102 #[.int .i64 0,.string { data:=#[] },.int .i64 0,.slice none 0 0]∧VNew wx B ⟨vk,vt,vc,ps,is_,ss⟩ (.slice A1 n1 c1) (.slice A2 n2 c2) (.slice A3 n3 c3)∧Below w.heap.size w wx)
 case first=>
  go_region_held3 (fun w'=>w'.cell? ⟨g,3,none⟩=some (.slice A1 n1 c1)∧w'.cell? ⟨w.heap.size,2,none⟩=some (.string field)) (first|exact ⟨hG1'.cell 3,hC1'.cell 2⟩|exact ⟨(hG1'.drew.below' hb1).cell 3,(hC1'.drew.below' hb1).cell 2⟩)
   (first|((go_at_call 161;with_reducible refine (HB.out _ ?_).mono ?_);(focus exact below_by);rintro e w1 ⟨rfl,hb1⟩))
  go_wp2_with fail
  go_meet
  exact ⟨rfl,rfl,hG1'.drew.below' hb1,hC1'.drew.below' hb1,hR1.drew.below' hb1,hN1.dr.bl hb1,below_by⟩
 case rest=>
  obtain ⟨rfl,rfl,G,C,R,N,q⟩:=hcut
  clear hN1 hG1' hC1' q1 hR1 hG1 hC1 hG hN hr HB chG1' fhG1' chC1' fhC1'
  have hBc:B≤wc.heap.size:=by have:=q.size;omega
  have hgw:g<wc.heap.size:=G.lt
  have hww:w.heap.size<wc.heap.size:=C.lt
  rcases hk with rfl|rfl|rfl
  ·cases has with
   | true=>
    obtain ⟨y,hy,hyf⟩:=HQ.out rfl
    have hixl:ix<ps.length:=by
     rcases Nat.lt_or_ge ix ps.length with h'|h'
     ·exact h'
     ·rw [List.getElem?_eq_none h'] at hy;cases hy
    have hv:D=(⟨vk,vt,vc,ps.set ix ⟨field,text⟩,is_,ss⟩,toldR 0):=by rw [HD.out];simp
    have HV:=hide hv
    clear HD hv HQ
    have hn1:=HL.out
    obtain ⟨b,hb1,hb2,hb3,-,hb5,hb6⟩:=N.1.block (by simp [pairRows];omega)
    subst hb1
    have hixr:ix<(pairRows ps).length:=by simpa [pairRows] using hixl
    have hst:=N.1.store (i:=ix) (j:=1) (u:=.string text) hixr (by omega)
    have hrw:(pairRows ps).set ix (((pairRows ps)[ix]'hixr).set 1 (.string text))=pairRows (ps.set ix ⟨field,text⟩):=by
     simp only [pairRows,List.map_set,List.getElem_map]
     congr 1
     rw [List.getElem?_eq_getElem hixl] at hy
     injection hy with hy
     rw [hy,←hyf];rfl
    rw [hrw] at hst
    have hcx:wc.cell? ⟨b,ix*2+1,none⟩=some (.string y.text):=hb6 ix y.cells (by simp [pairRows,hy]) 1 _ rfl
    have hbg:=own_not N.1 G
    have hbc:=own_not N.1 C
    have hbr:=own_not N.1 R
    have hz1:(0:Int)≤ix:=by omega
    have hz2:(ix:Int)<n1:=by omega
    have o2:=own_other N.2.1 N.1 (grown_setRow_cell wc b (ix*2+1) (.string text))
    have o3:=own_other N.2.2 N.1 (grown_setRow_cell wc b (ix*2+1) (.string text))
    (try clear cG fG);have cG:=G.cell;have fG:=G.frozen;(try clear cC fC);have cC:=C.cell;have fC:=C.frozen
    clear hrw hyf hy HL hn1
    have G2:=(G.far (p:=⟨b,ix*2+1,none⟩) (by simpa using hbg.symm) (.string text)).drew
    have C2:=(C.far (p:=⟨b,ix*2+1,none⟩) (by simpa using hbc.symm) (.string text)).drew
    have R2:=(R.far (p:=⟨b,ix*2+1,none⟩) (by simpa using hbr.symm) (.string text)).drew
    have q2:Mov B w (wc.setCell ⟨b,ix*2+1,none⟩ (.string text)).drew:=((Mov.of q hBw).setP N.1 (ix*2+1) (.string text)).drew
    have N2:VNew (wc.setCell ⟨b,ix*2+1,none⟩ (.string text)).drew B ⟨vk,vt,vc,ps.set ix ⟨field,text⟩,is_,ss⟩ (.slice (some ⟨b,0,none⟩) n1 c1) (.slice A2 n2 c2) (.slice A3 n3 c3):=⟨hst,o2,o3⟩
    go_wp2_with fail
    go_region_held3 (fun w'=>w'.cell? ⟨g,3,none⟩=some (.slice (some ⟨b,0,none⟩) n1 c1)∧w'.cell? ⟨w.heap.size,3,none⟩=some (.string text)) (first|exact ⟨G.cell 3,C.cell 3⟩|exact ⟨G2.cell 3,C2.cell 3⟩) (fail)
    clear cG fG cC fC
    go_wp2_with fail
    refine (told_any 0 _).mono ?_
    rintro e w2 ⟨rfl,hb9⟩
    have R3:=R2.below' hb9
    (try clear cR3 fR3);have cR3:=R3.cell;have fR3:=R3.frozen
    obtain ⟨P,R6⟩:=re_done (k0:=0) (t0:=emp) (m0:=0) (G2.below' hb9) R3 (N2.bl hb9) (mov_post q2 (by have:=q2.size;omega) hb9) (by omega) (by omega) (by omega)
    go_wp2_with fail
    have cR6:=R6.cell
    refine bodyPost_ret (v:=.agg #[.int .i64 0,.string emp,.int .i64 0,.slice none 0 0]) ?_ rfl (by rw [HV.out];exact P)
    simp [results,Tryz.results155,go_sem,cR6]
   | false=>
    have hixn:ix≤n1:=by rw [←HL.out];exact hple
    clear hple
    by_cases h20:n1=20
    ·have h20':ps.length=20:=by rw [HL.out];exact h20
     have hv:D=(⟨vk,vt,vc,ps,is_,ss⟩,failR 6):=by rw [HD.out];simp [*]
     have HV:=hide hv
     clear HD hv HQ
     clear h20'
     subst h20
     (try clear cG fG);have cG:=G.cell;have fG:=G.frozen;(try clear cC fC);have cC:=C.cell;have fC:=C.frozen
     go_wp2_with fail
     refine (failed_any 6 _).mono ?_
     rintro e w9 ⟨rfl,hb9⟩
     have R9:=(R).below' hb9
     (try clear cR9 fR9);have cR9:=R9.cell;have fR9:=R9.frozen
     obtain ⟨P,R6⟩:=re_done (k0:=6) (t0:=emp) (m0:=0) ((G).below' hb9) R9 ((N).bl hb9) (mov_post (Mov.of q hBw) (by have:=((Mov.of q hBw)).size;omega) hb9) (by omega) (by omega) (by omega)
     go_wp2_with fail
     have cR6:=R6.cell
     refine bodyPost_ret (v:=.agg #[.int .i64 6,.string emp,.int .i64 0,.slice none 0 0]) ?_ rfl (by rw [HV.out];exact P)
     simp [results,Tryz.results155,go_sem,cR6]
    ·have h20':¬ ps.length=20:=by rw [HL.out];exact h20
     have hv:D=(⟨vk,vt,vc,insRows ps ix ⟨field,text⟩,is_,ss⟩,toldR 1):=by rw [HD.out];simp [*]
     have HV:=hide hv
     clear HD hv HQ
     have h20b:((n1:Int) == 20)=false:=by rw [beq_eq_false_iff_ne];omega
     have n1l:=HL.out
     clear h20 h20'
     (try clear cG fG);have cG:=G.cell;have fG:=G.frozen;(try clear cC fC);have cC:=C.cell;have fC:=C.frozen
     go_wp2_with fail
     have G1:=G.drew;have C1:=C.drew;have R1:=R.drew;have N1:=N.dr
     have q1:Below w.heap.size w wc.drew:=q.drew
     refine wp_region_x (l:=[15]) (S:=fun w'=>w'.cell? ⟨g,3,none⟩=some (.slice A1 n1 c1)∧w'.cell? ⟨w.heap.size,2,none⟩=some (.string field)∧w'.cell? ⟨w.heap.size,3,none⟩=some (.string text)) (by kernel_rfl) ⟨G1.cell 3,C1.cell 2,C1.cell 3⟩ (fun hS=>?_)
     refine wpAnyX_tq 0 ?_
     refine wpAnyX_tq 1 ?_
     refine wpAnyX_tq 2 ?_
     refine wpAnyX_tq 3 ?_
     refine wpAnyX_tq 4 ?_
     refine wpAnyX_tq 5 ?_
     refine wpAnyX_tq 6 ?_
     refine wpAnyX_tq 7 ?_
     refine wpAnyX_tq 8 ?_
     refine wpAnyX_tq 9 ?_
     refine wpAnyX_tq 10 ?_
     refine wpAnyX_oq 11 fun K hK=>?_
     go_wp2_with fail
     have G2:=(G.alloc (.cells #[.string field,.string text] 137)).drew;have C2:=(C.alloc (.cells #[.string field,.string text] 137)).drew;have R2:=(R.alloc (.cells #[.string field,.string text] 137)).drew;have N2:=(N.al (.cells #[.string field,.string text] 137)).dr
     have X2:Blk (wc.alloc (.cells #[.string field,.string text] 137)).drew wc.heap.size 137 #[.string field,.string text]:=Blk.new _ _ _
     have q2:Mov B w (wc.alloc (.cells #[.string field,.string text] 137)).drew:=((Mov.of q hBw).alloc hBc _).drew
     have hwl:(wc.alloc (.cells #[.string field,.string text] 137)).drew.heap.size=wc.heap.size+1:=by simp
     have HWL:=hide hwl
     have hone:∀ u∈(#[Value.string field,Value.string text]:Array Value).toList,u.oneCell'=true:=by intro u hu;simp at hu;rcases hu with rfl|rfl <;> rfl
     clear hwl
     refine hK.out _ _ (Or.inr ⟨G2.cell 3,C2.cell 2,C2.cell 3⟩) (fun hS=>?_)
     replace hS:=hS.resolve_left (by decide)
     clear hK K G1 C1 R1 N1 q1
     have N2p:=N2.1
     refine wpAnyX_oq 12 fun K hK=>?_
     go_wp2_with fail
     ((with_reducible refine (Insert_pair A1 n1 c1 B ix wc.heap.size (pairRows ps) #[.string field,.string text] _ N2p (pair_one _) hixn (by omega) X2 rfl hone ?hbv (by rw [HWL.out];omega)).mono ?_)
      case hbv=>
       intro e
       obtain ⟨cur,hcur⟩:=own_typed N.1 e.symm
       have:wc.heap.size<wc.heap.size:=(Array.getElem?_eq_some_iff.1 hcur).1
       omega
      rintro e w3 ⟨A',n',c',rfl,o3,g3⟩)
     go_wp2_with fail
     have hwB:B≤(wc.alloc (.cells #[.string field,.string text] 137)).drew.heap.size:=by rw [HWL.out];omega
     have G3:=blk_other G2 N2.1 g3;have C3:=blk_other C2 N2.1 g3;have R3:=blk_other R2 N2.1 g3
     have q3:=q2.trans (mov_grown N2.1 g3 hwB)
     have N3:VNew w3 B ⟨vk,vt,vc,insRows ps ix ⟨field,text⟩,is_,ss⟩ (.slice A' n' c') (.slice A2 n2 c2) (.slice A3 n3 c3):=⟨by have:=o3;simp only [insRows,pairRows,List.map_append,List.map_take,List.map_drop] at this ⊢;exact this,own_other N2.2.1 N2.1 g3,own_other N2.2.2 N2.1 g3⟩
     refine hK.out _ _ (Or.inr ⟨G3.cell 3,C3.cell 2,C3.cell 3⟩) (fun hS=>?_)
     replace hS:=hS.resolve_left (by decide)
     clear hK K G2 C2 R2 N2 q2 X2 o3 g3
     (try clear cG3 fG3);have cG3:=G3.cell;have fG3:=G3.frozen
     refine wpAnyX_ps 13 ?_
     refine wpAnyX_ps 14 ?_
     refine wpAnyX_oq 15 fun K hK=>?_
     go_wp2_with fail
     have G4:=G3.set' (i:=3) (u:=.slice A' n' c') rfl
     have R4:=R3.far (p:=⟨g,3,none⟩) (by simp;omega) (.slice A' n' c')
     have N4:=N3.st' G3 3 (.slice A' n' c')
     have q4:=q3.setV G3 hg 3 (.slice A' n' c')
     refine hK.out _ _ (Or.inl (by decide)) (fun hS=>?_)
     clear hK K hS G3 R3 N3 q3 cG3 fG3 cG fG cC fC
     refine wpAnyX_done (by kernel_rfl) ?_ _
     go_wp2_with fail
     refine (told_any 1 _).mono ?_
     rintro e w9 ⟨rfl,hb9⟩
     have R9:=(R4).below' hb9
     (try clear cR9 fR9);have cR9:=R9.cell;have fR9:=R9.frozen
     obtain ⟨P,R6⟩:=re_done (k0:=0) (t0:=emp) (m0:=1) ((G4).below' hb9) R9 ((N4).bl hb9) (mov_post q4 (by have:=(q4).size;omega) hb9) (by omega) (by omega) (by omega)
     go_wp2_with fail
     have cR6:=R6.cell
     refine bodyPost_ret (v:=.agg #[.int .i64 0,.string emp,.int .i64 1,.slice none 0 0]) ?_ rfl (by rw [HV.out];exact P)
     simp [results,Tryz.results155,go_sem,cR6]
  ·cases has with
   | true=>
    obtain ⟨y,hy,hyf⟩:=HQ.out rfl
    have hixl:ix<ps.length:=by
     rcases Nat.lt_or_ge ix ps.length with h'|h'
     ·exact h'
     ·rw [List.getElem?_eq_none h'] at hy;cases hy
    have hpt:pairText ps ix=y.text:=by unfold pairText;rw [hy]
    have hv:D=(⟨vk,vt,vc,ps,is_,ss⟩,textR y.text):=by rw [HD.out];simp [hpt]
    have HV:=hide hv
    clear HD hv HQ hpt hple
    have hn1:=HL.out
    obtain ⟨b,hb1,hb2,hb3,-,hb5,hb6⟩:=N.1.block (by simp [pairRows];omega)
    subst hb1
    have hcx:wc.cell? ⟨b,ix*2+1,none⟩=some (.string y.text):=hb6 ix y.cells (by simp [pairRows,hy]) 1 _ rfl
    have hz1:(0:Int)≤ix:=by omega
    have hz2:(ix:Int)<n1:=by omega
    (try clear cG fG);have cG:=G.cell;have fG:=G.frozen;(try clear cC fC);have cC:=C.cell;have fC:=C.frozen;(try clear cR fR);have cR:=R.cell;have fR:=R.frozen
    clear hyf hy HL hn1 hb6
    obtain ⟨P,R6⟩:=re_done (k0:=0) (t0:=y.text) (m0:=0) G R N (Mov.of q hBw) (by omega) (by omega) (by omega)
    go_wp2_with fail
    have cR6:=R6.cell
    refine bodyPost_ret (v:=.agg #[.int .i64 0,.string y.text,.int .i64 0,.slice none 0 0]) ?_ rfl (by rw [HV.out];exact P)
    simp [results,Tryz.results155,go_sem,cR6]
   | false=>
    have hv:D=(⟨vk,vt,vc,ps,is_,ss⟩,failR 5):=by rw [HD.out];simp [*]
    have HV:=hide hv
    clear HD hv HQ
    clear hple
    (try clear cG fG);have cG:=G.cell;have fG:=G.frozen;(try clear cC fC);have cC:=C.cell;have fC:=C.frozen
    go_wp2_with fail
    refine (failed_any 5 _).mono ?_
    rintro e w9 ⟨rfl,hb9⟩
    have R9:=(R).below' hb9
    (try clear cR9 fR9);have cR9:=R9.cell;have fR9:=R9.frozen
    obtain ⟨P,R6⟩:=re_done (k0:=5) (t0:=emp) (m0:=0) ((G).below' hb9) R9 ((N).bl hb9) (mov_post (Mov.of q hBw) (by have:=((Mov.of q hBw)).size;omega) hb9) (by omega) (by omega) (by omega)
    go_wp2_with fail
    have cR6:=R6.cell
    refine bodyPost_ret (v:=.agg #[.int .i64 5,.string emp,.int .i64 0,.slice none 0 0]) ?_ rfl (by rw [HV.out];exact P)
    simp [results,Tryz.results155,go_sem,cR6]
  ·cases has with
   | true=>
    obtain ⟨y,hy,hyf⟩:=HQ.out rfl
    have hixl:ix<ps.length:=by
     rcases Nat.lt_or_ge ix ps.length with h'|h'
     ·exact h'
     ·rw [List.getElem?_eq_none h'] at hy;cases hy
    have hpt:pairText ps ix=y.text:=by unfold pairText;rw [hy]
    have hv:D=(⟨vk,vt,vc,delRows ps ix,is_,ss⟩,toldR 1):=by rw [HD.out];simp [hpt]
    have HV:=hide hv
    clear HD hv HQ hpt hple
    have hn1:=HL.out
    have Np:=N.1
    have hin:ix<n1:=by omega
    have hwi:IntKind.i64.wrap ((ix:Int)+1)=(ix:Int)+1:=IntWalk.i64_in _ (by omega)
    (try clear cG fG);have cG:=G.cell;have fG:=G.frozen;(try clear cC fC);have cC:=C.cell;have fC:=C.frozen
    clear hyf hy HL hn1
    go_wp2_with fail
    ((with_reducible refine (Delete_pair A1 n1 c1 B ix (pairRows ps) _ Np (pair_one _) hin (by omega)).mono ?_);rintro e w3 ⟨A',n',c',rfl,o3,g3⟩)
    have G3:=blk_other G Np g3;have R3:=blk_other R Np g3
    have q3:=(Mov.of q hBw).trans (mov_grown Np g3 hBc)
    have N3:VNew w3 B ⟨vk,vt,vc,delRows ps ix,is_,ss⟩ (.slice A' n' c') (.slice A2 n2 c2) (.slice A3 n3 c3):=⟨by have:=o3;simp only [delRows,pairRows,List.map_append,List.map_take,List.map_drop] at this ⊢;exact this,own_other N.2.1 Np g3,own_other N.2.2 Np g3⟩
    clear cG fG cC fC o3 g3
    (try clear cG3 fG3);have cG3:=G3.cell;have fG3:=G3.frozen
    go_wp2_with fail
    have G4:=G3.set' (i:=3) (u:=.slice A' n' c') rfl
    have R4:=R3.far (p:=⟨g,3,none⟩) (by simp;omega) (.slice A' n' c')
    have N4:=N3.st' G3 3 (.slice A' n' c')
    have q4:=q3.setV G3 hg 3 (.slice A' n' c')
    clear cG3 fG3
    refine (flag_any true _).mono ?_
    rintro e w' ⟨rfl,rfl⟩
    go_wp2_with fail
    refine (told_any (flagI true) _).mono ?_
    rintro e w9 ⟨rfl,hb9⟩
    have R9:=(R4).below' hb9
    (try clear cR9 fR9);have cR9:=R9.cell;have fR9:=R9.frozen
    obtain ⟨P,R6⟩:=re_done (k0:=0) (t0:=emp) (m0:=(flagI true)) ((G4).below' hb9) R9 ((N4).bl hb9) (mov_post q4 (by have:=(q4).size;omega) hb9) (by omega) (by omega) (by omega)
    go_wp2_with fail
    have cR6:=R6.cell
    refine bodyPost_ret (v:=.agg #[.int .i64 0,.string emp,.int .i64 (flagI true),.slice none 0 0]) ?_ rfl (by rw [HV.out];exact P)
    simp [results,Tryz.results155,go_sem,cR6]
   | false=>
    have hv:D=(⟨vk,vt,vc,ps,is_,ss⟩,toldR 0):=by rw [HD.out];simp [*]
    have HV:=hide hv
    clear HD hv HQ
    clear hple
    (try clear cG fG);have cG:=G.cell;have fG:=G.frozen;(try clear cC fC);have cC:=C.cell;have fC:=C.frozen
    go_wp2_with fail
    refine (flag_any false _).mono ?_
    rintro e w' ⟨rfl,rfl⟩
    go_wp2_with fail
    refine (told_any (flagI false) _).mono ?_
    rintro e w9 ⟨rfl,hb9⟩
    have R9:=(R).below' hb9
    (try clear cR9 fR9);have cR9:=R9.cell;have fR9:=R9.frozen
    obtain ⟨P,R6⟩:=re_done (k0:=0) (t0:=emp) (m0:=(flagI false)) ((G).below' hb9) R9 ((N).bl hb9) (mov_post (Mov.of q hBw) (by have:=((Mov.of q hBw)).size;omega) hb9) (by omega) (by omega) (by omega)
    go_wp2_with fail
    have cR6:=R6.cell
    refine bodyPost_ret (v:=.agg #[.int .i64 0,.string emp,.int .i64 (flagI false),.slice none 0 0]) ?_ rfl (by rw [HV.out];exact P)
    simp [results,Tryz.results155,go_sem,cR6]
end Go.Proofs.YtgmojjclobkpjaaGreatDoor


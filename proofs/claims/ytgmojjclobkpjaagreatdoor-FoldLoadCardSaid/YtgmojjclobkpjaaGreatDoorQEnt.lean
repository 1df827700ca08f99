import Derived.Test.YtgmojjclobkpjaaGreatDoorQDone
import Derived.Test.YtgmojjclobkpjaaGreatDoorQOwn
import Derived.Test.YtgmojjclobkpjaaGreatDoorQCmp
import Derived.Test.YtgmojjclobkpjaaGreatDoorQBin
import Derived.BigQuiet
namespace Go.Proofs.YtgmojjclobkpjaaGreatDoor
set_option linter.all false
set_option maxHeartbeats 32000000
open Go.RowKit
theorem whole_value {w2:World} {b:Nat} {x0 x1 x2 x3 x4 x5:Value} (u0 u1 u2 u3 u4 u5:Value) (R:Blk w2 b 96 #[x0,x1,x2,x3,x4,x5]) :
  Blk ((((((w2.setCell ⟨b,0,none⟩ (u0)).setCell ⟨b,1,none⟩ (u1)).setCell ⟨b,2,none⟩ (u2)).setCell ⟨b,3,none⟩ (u3)).setCell ⟨b,4,none⟩ (u4)).setCell ⟨b,5,none⟩ (u5)) b 96 #[u0,u1,u2,u3,u4,u5]∧w2.grownBy ((((((w2.setCell ⟨b,0,none⟩ (u0)).setCell ⟨b,1,none⟩ (u1)).setCell ⟨b,2,none⟩ (u2)).setCell ⟨b,3,none⟩ (u3)).setCell ⟨b,4,none⟩ (u4)).setCell ⟨b,5,none⟩ (u5)) (some b)∧((((((w2.setCell ⟨b,0,none⟩ (u0)).setCell ⟨b,1,none⟩ (u1)).setCell ⟨b,2,none⟩ (u2)).setCell ⟨b,3,none⟩ (u3)).setCell ⟨b,4,none⟩ (u4)).setCell ⟨b,5,none⟩ (u5)).heap.size=w2.heap.size:=by
 have R0:=R.set' (i:=0) (u:=u0) rfl
 have R1:=R0.set' (i:=1) (u:=u1) rfl
 have R2:=R1.set' (i:=2) (u:=u2) rfl
 have R3:=R2.set' (i:=3) (u:=u3) rfl
 have R4:=R3.set' (i:=4) (u:=u4) rfl
 have R5:=R4.set' (i:=5) (u:=u5) rfl
 exact ⟨R5,(grown_trans (grown_trans (grown_trans (grown_trans (grown_trans (grown_setRow_cell w2 b 0 u0) (grown_setRow_cell _ b 1 u1)) (grown_setRow_cell _ b 2 u2)) (grown_setRow_cell _ b 3 u3)) (grown_setRow_cell _ b 4 u4)) (grown_setRow_cell _ b 5 u5)),by simp⟩
theorem whole_reply {w2:World} {b:Nat} {x0 x1 x2 x3:Value} (u0 u1 u2 u3:Value) (R:Blk w2 b 102 #[x0,x1,x2,x3]) :
  Blk ((((w2.setCell ⟨b,0,none⟩ (u0)).setCell ⟨b,1,none⟩ (u1)).setCell ⟨b,2,none⟩ (u2)).setCell ⟨b,3,none⟩ (u3)) b 102 #[u0,u1,u2,u3]∧w2.grownBy ((((w2.setCell ⟨b,0,none⟩ (u0)).setCell ⟨b,1,none⟩ (u1)).setCell ⟨b,2,none⟩ (u2)).setCell ⟨b,3,none⟩ (u3)) (some b)∧((((w2.setCell ⟨b,0,none⟩ (u0)).setCell ⟨b,1,none⟩ (u1)).setCell ⟨b,2,none⟩ (u2)).setCell ⟨b,3,none⟩ (u3)).heap.size=w2.heap.size:=by
 have R0:=R.set' (i:=0) (u:=u0) rfl
 have R1:=R0.set' (i:=1) (u:=u1) rfl
 have R2:=R1.set' (i:=2) (u:=u2) rfl
 have R3:=R2.set' (i:=3) (u:=u3) rfl
 exact ⟨R3,(grown_trans (grown_trans (grown_trans (grown_setRow_cell w2 b 0 u0) (grown_setRow_cell _ b 1 u1)) (grown_setRow_cell _ b 2 u2)) (grown_setRow_cell _ b 3 u3)),by simp⟩
theorem grown_blk {w w':World} {g k:Nat} {t:TypeId} {cs:Array Value} (h:Blk w k t cs) (hg:w.grownBy w' (some g)) (hne:k≠g):Blk w' k t cs:=(hg.block k h.lt (by simpa using hne)).trans h
theorem grown_tp {w w':World} {g:Nat} {A:Option Addr} {t t':TypeId} {cs:Array Value} (h:Tp w A t) (R:Blk w g t' cs) (hg:w.grownBy w' (some g)) (hne:t≠t':=by decide):Tp w' A t:=fun a ha=>by
 obtain ⟨cs',h'⟩:=h a ha
 exact ⟨cs',grown_blk h' hg (blk_ne h' R hne)⟩
theorem below_grow {B:Nat} {a w w':World} {g:Nat} (h:Below B a w) (hg:w.grownBy w' (some g)) (hB:B≤w.heap.size) (hb:B≤g):Below B a w':=h.grown hg hB (fun k hk=>by injection hk with hk;omega)
structure En where
 key:ByteArray
 val:Va
 till:Int
structure Fr (w w':World):Prop where
 size:w.heap.size≤w'.heap.size
 p:∀ k cs,Blk w k 137 cs→Blk w' k 137 cs
 i:∀ k cs,Blk w k 9 cs→Blk w' k 9 cs
 s:∀ k cs,Blk w k 139 cs→Blk w' k 139 cs
def Tps (w:World) (A1 A2 A3:Option Addr):Prop:=Tp w A1 137∧Tp w A2 9∧Tp w A3 139
section
variable {w w' w'':World} {g n c:Nat} {t:TypeId} {A A1 A2 A3:Option Addr} {n1 c1 n2 c2 n3 c3:Nat} {cs:Array Value} {v:Va} {x:En} {r:List Value} {l l':List En} {rows rows':List (List Value)}
theorem Fr.trans (h:Fr w w') (k:Fr w' w''):Fr w w'':=⟨Nat.le_trans h.size k.size,fun b cs hb=>k.p b cs (h.p b cs hb),fun b cs hb=>k.i b cs (h.i b cs hb),fun b cs hb=>k.s b cs (h.s b cs hb)⟩
theorem Fr.of (h:Below w.heap.size w w'):Fr w w':=⟨h.size,fun _ _ hb=>hb.below' h,fun _ _ hb=>hb.below' h,fun _ _ hb=>hb.below' h⟩
theorem Fr.grown (R:Blk w g t cs) (hg:w.grownBy w' (some g)) (h1:t≠137:=by decide) (h2:t≠9:=by decide) (h3:t≠139:=by decide):Fr w w':=
 ⟨hg.size,fun _ _ hb=>grown_blk hb hg (blk_ne hb R (Ne.symm h1)),fun _ _ hb=>grown_blk hb hg (blk_ne hb R (Ne.symm h2)),fun _ _ hb=>grown_blk hb hg (blk_ne hb R (Ne.symm h3))⟩
theorem Fr.own {size B:Nat} {e:TypeId} {s:Value} {rows:List (List Value)} (h:Own w B e size s rows) (hg:w.grownBy w' s.ownBlock) (h1:e≠137:=by decide) (h2:e≠9:=by decide) (h3:e≠139:=by decide):Fr w w':=
 ⟨hg.size,fun _ _ hb=>blk_other hb h hg (Ne.symm h1),fun _ _ hb=>blk_other hb h hg (Ne.symm h2),fun _ _ hb=>blk_other hb h hg (Ne.symm h3)⟩
theorem VSl.fr (h:VSl w v A1 n1 c1 A2 n2 c2 A3 n3 c3) (T:Tps w A1 A2 A3) (f:Fr w w'):VSl w' v A1 n1 c1 A2 n2 c2 A3 n3 c3:=by
 refine ⟨h.p.kept f.size fun a ha _=>?_,h.i.kept f.size fun a ha _=>?_,h.s.kept f.size fun a ha _=>?_⟩
 ·obtain ⟨cs,hc⟩:=T.1 a ha;exact (f.p _ _ hc).trans hc.symm
 ·obtain ⟨cs,hc⟩:=T.2.1 a ha;exact (f.i _ _ hc).trans hc.symm
 ·obtain ⟨cs,hc⟩:=T.2.2 a ha;exact (f.s _ _ hc).trans hc.symm
theorem Tps.fr (T:Tps w A1 A2 A3) (f:Fr w w'):Tps w' A1 A2 A3:=by
 refine ⟨fun a ha=>?_,fun a ha=>?_,fun a ha=>?_⟩
 ·obtain ⟨cs,hc⟩:=T.1 a ha;exact ⟨cs,f.p _ _ hc⟩
 ·obtain ⟨cs,hc⟩:=T.2.1 a ha;exact ⟨cs,f.i _ _ hc⟩
 ·obtain ⟨cs,hc⟩:=T.2.2 a ha;exact ⟨cs,f.s _ _ hc⟩
def En.cells (x:En) (s1 s2 s3:Value):List Value:=[.string x.key,.int .i64 x.val.kind,.string x.val.text,.int .i64 x.val.count,s1,s2,s3,.int .i64 x.till]
def EnAt (w:World) (x:En) (r:List Value):Prop:=
 ∃ A1 n1 c1 A2 n2 c2 A3 n3 c3,r=x.cells (.slice A1 n1 c1) (.slice A2 n2 c2) (.slice A3 n3 c3)∧VSl w x.val A1 n1 c1 A2 n2 c2 A3 n3 c3∧Tps w A1 A2 A3
theorem EnAt.fr (h:EnAt w x r) (f:Fr w w'):EnAt w' x r:=by
 obtain ⟨A1,n1,c1,A2,n2,c2,A3,n3,c3,h1,h2,h3⟩:=h
 exact ⟨A1,n1,c1,A2,n2,c2,A3,n3,c3,h1,h2.fr h3 f,h3.fr f⟩
theorem EnAt.one (h:EnAt w x r):∀ u∈r,u.oneCell'=true:=by
 obtain ⟨A1,n1,c1,A2,n2,c2,A3,n3,c3,rfl,_⟩:=h
 intro u hu
 simp only [En.cells,List.mem_cons,List.not_mem_nil,or_false] at hu
 rcases hu with rfl|rfl|rfl|rfl|rfl|rfl|rfl|rfl <;> rfl
def Ens (w:World):List En→List (List Value)→Prop
 | [],[]=>True
 | x :: l,r :: rows=>EnAt w x r∧Ens w l rows
 | _,_=>False
theorem Ens.fr:∀ {l:List En} {rows:List (List Value)},Ens w l rows→Fr w w'→Ens w' l rows
 | [],[],_,_=>trivial
 | _ :: _,_ :: _,h,f=>⟨h.1.fr f,Ens.fr h.2 f⟩
 | [],_ :: _,h,_=>h.elim
 | _ :: _,[],h,_=>h.elim
theorem Ens.len:∀ {l:List En} {rows:List (List Value)},Ens w l rows→l.length=rows.length
 | [],[],_=>rfl
 | _ :: _,_ :: _,h=>by simp [Ens.len h.2]
 | [],_ :: _,h=>h.elim
 | _ :: _,[],h=>h.elim
theorem Ens.at_:∀ {l:List En} {rows:List (List Value)},Ens w l rows→∀ {k:Nat} (hk:k<l.length),∃ r,rows[k]?=some r∧EnAt w l[k] r
 | [],_,_,k,hk=>by simp at hk
 | _ :: _,r :: _,h,0,_=>⟨r,rfl,h.1⟩
 | _ :: _,_ :: _,h,k+1,hk=>Ens.at_ h.2 (k:=k) (by simpa using hk)
 | _ :: _,[],h,_,_=>h.elim
theorem Ens.one:∀ {l:List En} {rows:List (List Value)},Ens w l rows→∀ r∈rows,∀ u∈r,u.oneCell'=true
 | [],[],_,_,hr,_,_=>by cases hr
 | _ :: _,_ :: _,h,_,hr,u,hu=>by
  rcases List.mem_cons.1 hr with rfl|hr
  ·exact h.1.one u hu
  ·exact Ens.one h.2 _ hr u hu
 | [],_ :: _,h,_,_,_,_=>h.elim
 | _ :: _,[],h,_,_,_,_=>h.elim
theorem Ens.app:∀ {l:List En} {rows:List (List Value)},Ens w l rows→∀ {l':List En} {rows':List (List Value)},Ens w l' rows'→Ens w (l ++ l') (rows ++ rows')
 | [],[],_,_,_,k=>k
 | _ :: _,_ :: _,h,_,_,k=>⟨h.1,Ens.app h.2 k⟩
 | [],_ :: _,h,_,_,_=>h.elim
 | _ :: _,[],h,_,_,_=>h.elim
theorem Ens.take:∀ {l:List En} {rows:List (List Value)},Ens w l rows→∀ k,Ens w (l.take k) (rows.take k)
 | [],[],_,k=>by cases k <;> trivial
 | _ :: _,_ :: _,_,0=>trivial
 | _ :: _,_ :: _,h,k+1=>⟨h.1,Ens.take h.2 k⟩
 | [],_ :: _,h,_=>h.elim
 | _ :: _,[],h,_=>h.elim
theorem Ens.drop:∀ {l:List En} {rows:List (List Value)},Ens w l rows→∀ k,Ens w (l.drop k) (rows.drop k)
 | [],[],_,k=>by cases k <;> trivial
 | _ :: _,_ :: _,h,0=>h
 | _ :: _,_ :: _,h,k+1=>Ens.drop h.2 k
 | [],_ :: _,h,_=>h.elim
 | _ :: _,[],h,_=>h.elim
theorem Ens.one_ (h:EnAt w x r):Ens w [x] [r]:=⟨h,trivial⟩
theorem Ens.ins (h:Ens w l rows) (hx:EnAt w x r) (k:Nat):Ens w (insRows l k x) (insRows rows k r):=((h.take k).app (Ens.one_ hx)).app (h.drop k)
theorem Ens.del (h:Ens w l rows) (k:Nat):Ens w (delRows l k) (delRows rows k):=(h.take k).app (h.drop (k+1))
theorem Ens.set:∀ {l:List En} {rows:List (List Value)},Ens w l rows→∀ (k:Nat) {x:En} {r:List Value},EnAt w x r→Ens w (l.set k x) (rows.set k r)
 | [],[],_,k,_,_,_=>by cases k <;> trivial
 | _ :: _,_ :: _,h,0,_,_,hx=>⟨hx,h.2⟩
 | _ :: _,_ :: _,h,k+1,_,_,hx=>⟨h.1,Ens.set h.2 k hx⟩
 | [],_ :: _,h,_,_,_,_=>h.elim
 | _ :: _,[],h,_,_,_,_=>h.elim
structure EC (w:World) (b o:Nat) (x:En) (s1 s2 s3:Value):Prop where
 c0:w.cell? ⟨b,o,none⟩=some (.string x.key)
 c1:w.cell? ⟨b,o+1,none⟩=some (.int .i64 x.val.kind)
 c2:w.cell? ⟨b,o+2,none⟩=some (.string x.val.text)
 c3:w.cell? ⟨b,o+3,none⟩=some (.int .i64 x.val.count)
 c4:w.cell? ⟨b,o+4,none⟩=some s1
 c5:w.cell? ⟨b,o+5,none⟩=some s2
 c6:w.cell? ⟨b,o+6,none⟩=some s3
 c7:w.cell? ⟨b,o+7,none⟩=some (.int .i64 x.till)
theorem ent_at (h:Seg w 8 A rows) (he:Ens w l rows) {k:Nat} (hk:k<l.length) :
  ∃ b off A1 n1 c1 A2 n2 c2 A3 n3 c3,A=some ⟨b,off,none⟩∧b<w.heap.size∧EC w b (off+k*8) l[k] (.slice A1 n1 c1) (.slice A2 n2 c2) (.slice A3 n3 c3)∧VSl w l[k].val A1 n1 c1 A2 n2 c2 A3 n3 c3∧Tps w A1 A2 A3:=by
 obtain ⟨r,hr,A1,n1,c1,A2,n2,c2,A3,n3,c3,h1,h2,h3⟩:=he.at_ hk
 obtain ⟨b,off,e1,hb,hc⟩:=h (by have:=List.length_pos_of_mem (List.mem_of_getElem? hr);exact this)
 have hc':∀ j u,r[j]?=some u→w.cell? ⟨b,off+k*8+j,none⟩=some u:=by
  intro j u hu
  rw [Nat.add_assoc]
  exact hc k r hr j u hu
 subst h1
 exact ⟨b,off,A1,n1,c1,A2,n2,c2,A3,n3,c3,e1,hb,⟨hc' 0 _ rfl,hc' 1 _ rfl,hc' 2 _ rfl,hc' 3 _ rfl,hc' 4 _ rfl,hc' 5 _ rfl,hc' 6 _ rfl,hc' 7 _ rfl⟩,h2,h3⟩
def StSl (w:World) (A:Option Addr) (n c:Nat) (l:List En):Prop:=∃ rows,Sl w 8 A n c rows∧Ens w l rows
theorem StSl.len (h:StSl w A n c l):l.length=n:=by obtain ⟨rows,h1,h2⟩:=h;rw [h2.len];exact h1.len
theorem StSl.bl (h:StSl w A n c l) (hb:Below w.heap.size w w'):StSl w' A n c l:=by obtain ⟨rows,h1,h2⟩:=h;exact ⟨rows,h1.below hb,h2.fr (Fr.of hb)⟩
theorem StSl.dr (h:StSl w A n c l):StSl w.drew A n c l:=h.bl (Below.refl _ w).drew
theorem StSl.nil (w:World):StSl w none 0 0 []:=⟨[],Sl.nil_ w 8,trivial⟩
theorem StSl.at_ (h:StSl w A n c l) {k:Nat} (hk:k<l.length) :
  ∃ b off A1 n1 c1 A2 n2 c2 A3 n3 c3,A=some ⟨b,off,none⟩∧b<w.heap.size∧EC w b (off+k*8) l[k] (.slice A1 n1 c1) (.slice A2 n2 c2) (.slice A3 n3 c3)∧VSl w l[k].val A1 n1 c1 A2 n2 c2 A3 n3 c3∧Tps w A1 A2 A3:=by
 obtain ⟨rows,h1,h2⟩:=h;exact ent_at h1.seg h2 hk
def StOwn (w:World) (B:Nat) (A:Option Addr) (n c:Nat) (l:List En):Prop:=∃ rows,Own w B 98 8 (.slice A n c) rows∧Ens w l rows
theorem StOwn.sl {B:Nat} (h:StOwn w B A n c l):StSl w A n c l:=by obtain ⟨rows,h1,h2⟩:=h;exact ⟨rows,h1.sl',h2⟩
theorem StOwn.bl {B:Nat} (h:StOwn w B A n c l) (hb:Below w.heap.size w w'):StOwn w' B A n c l:=by obtain ⟨rows,h1,h2⟩:=h;exact ⟨rows,h1.below hb,h2.fr (Fr.of hb)⟩
theorem StOwn.dr {B:Nat} (h:StOwn w B A n c l):StOwn w.drew B A n c l:=h.bl (Below.refl _ w).drew
theorem StOwn.mono {B B':Nat} (h:StOwn w B A n c l) (hB:B'≤B):StOwn w B' A n c l:=by obtain ⟨rows,h1,h2⟩:=h;exact ⟨rows,h1.mono hB,h2⟩
theorem StOwn.grown {B:Nat} (h:StOwn w B A n c l) (R:Blk w g t cs) (hg:w.grownBy w' (some g)) (h0:t≠98:=by decide) (h1:t≠137:=by decide) (h2:t≠9:=by decide) (h3:t≠139:=by decide):StOwn w' B A n c l:=by
 obtain ⟨rows,k1,k2⟩:=h
 refine ⟨rows,⟨⟨k1.1.1,?_⟩,k1.2⟩,k2.fr (Fr.grown R hg h1 h2 h3)⟩
 rcases k1.1.2 with e|⟨b,cap,cur,e1,e2,e3,e4⟩
 ·exact .inl e
 ·exact .inr ⟨b,cap,cur,e1,e2,grown_blk (t:=98) e3 hg (blk_ne (t:=98) e3 R (Ne.symm h0)),e4⟩
end
def gone (now:Int) (x:En):Bool:=x.till != 0 && decide (x.till≤now)
theorem gone_ (x:En) (s1 s2 s3:Value) (kb g:Nat) (now:Int) (w:World) (hkl:kb<w.heap.size) (hk:w.cell? ⟨kb,0,none⟩=some (.pointer (some ⟨g,0,none⟩))) (hgl:g<w.heap.size) (hg:w.cell? ⟨g,0,none⟩=some (.int .i64 now)) :
  Calls Tryz.prog 97 #[.agg (x.cells s1 s2 s3).toArray,.pointer (some ⟨kb,0,none⟩)] w fun e w'=>e = .returned (.bool (gone now x))∧Below w.heap.size w w':=by
 obtain ⟨key,⟨vk,vt,vc,ps,is_,ss⟩,till⟩:=x
 simp only [En.cells]
 have hgl1:g<w.heap.size+1:=by omega
 by_cases h0:till=0
 ·subst h0
  go_enter Tryz.func97,Tryz.ntmps97
  go_wp2_with fail
  go_quiet (fail)
  go_wp2_with fail
  go_ret
  exact ⟨rfl,below_by⟩
 ·have hne:(till == 0)=false:=by rw [beq_eq_false_iff_ne];exact h0
  by_cases h1:till≤now
  ·have hr:gone now ⟨key,⟨vk,vt,vc,ps,is_,ss⟩,till⟩=true:=by simp [gone,h0,h1]
   rw [hr]
   clear hr
   have hd:decide (till≤now)=true:=by simp [h1]
   go_enter Tryz.func97,Tryz.ntmps97
   go_wp2_with fail
   go_quiet (fail)
   go_wp2_with fail
   go_ret
   exact ⟨by simp [h0],below_by⟩
  ·have hr:gone now ⟨key,⟨vk,vt,vc,ps,is_,ss⟩,till⟩=false:=by simp [gone,h0,h1]
   rw [hr]
   clear hr
   have hd:decide (till≤now)=false:=by simp;omega
   go_enter Tryz.func97,Tryz.ntmps97
   go_wp2_with fail
   go_quiet (fail)
   go_wp2_with fail
   go_ret
   exact ⟨by simp,below_by⟩
theorem FindEnt (f:FuncId) (hf:∀ args w,(callFunc f args).run Tryz.prog w = .ok (.enter f args) w) (p:En→Bool) (w0:World) (g:Nat)
  (hp:∀ (x:En) (s1 s2 s3:Value) (w:World),Below w0.heap.size w0 w→Calls Tryz.prog f #[.agg (x.cells s1 s2 s3).toArray,.pointer (some ⟨g,0,none⟩)] w fun e w'=>e = .returned (.bool (p x))∧Below w.heap.size w w')
  (A:Option Addr) (ln c:Nat) (l:List En) (hl:l.length≤1048576) (h:StSl w0 A ln c l) :
  Calls Tryz.prog 128 #[.slice A ln c,.func (.func f) #[] #[.pointer (some ⟨g,0,none⟩)]] w0 fun e w'=>e = .returned (.int .i64 (idxFn (l.findIdx? p)))∧Below w0.heap.size w0 w':=by
 have hln:=h.len
 subst hln
 have HP:=hide hp
 clear hp
 go_enter Tryz.func128,Tryz.ntmps128
 go_wp2
 go_loopw [5,8] (fun _ i wr=>∃ k:Nat,k≤l.length∧i = .int .i64 k∧Hid (∀ j,j<k→∀ s,l[j]?=some s→p s=false)∧Below w0.heap.size w0 wr) (fun _ i _=>l.length - (intOf i).toNat)
 case atStart=>exact ⟨0,by omega,rfl,fun j hj=>by omega,below_by⟩
 case round=>
  obtain ⟨k,hk,rfl,HQ,hbr⟩:=hrel
  by_cases hlt:k<l.length
  ·obtain ⟨b,off,A1,n1,c1,A2,n2,c2,A3,n3,c3,rfl,hb,⟨i0,i1,i2,i3,i4,i5,i6,i7⟩,-,-⟩:=(h.bl hbr).at_ hlt
   have hps:=HP.out l[k] (.slice A1 n1 c1) (.slice A2 n2 c2) (.slice A3 n3 c3)
   simp only [En.cells] at hps
   have HPS:=hide hps
   clear hps
   go_wp2_with fail
   by_cases hps:p l[k]=true
   ·refine (HPS.out _ hbr).mono ?_
    rintro e w' ⟨rfl,hb2⟩
    go_wp2_with fail
    go_ret
    exact ⟨by rw [idx_hit hlt hps HQ];rfl,bstep hbr hb2⟩
   ·have hps':p l[k]=false:=by simpa using hps
    refine (HPS.out _ hbr).mono ?_
    rintro e w' ⟨rfl,hb2⟩
    go_wp2_with fail
    go_round
    case rel=>exact ⟨k+1,by omega,by go_num,idx_next hlt hps' HQ,bstep hbr hb2⟩
    case measure=>simp [intOf];omega
  ·obtain rfl:k=l.length:=by omega
   go_wp2_with fail
   go_ret
   exact ⟨by rw [idx_miss HQ];rfl,hbr⟩
theorem byKey_ (x:En) (s1 s2 s3:Value) (key:ByteArray) (w:World) :
  Calls Tryz.prog 142 #[.agg (x.cells s1 s2 s3).toArray,.string key] w fun e w'=>e = .returned (.int .i64 (cmpB x.key key))∧Below w.heap.size w w':=by
 simp only [En.cells]
 go_enter Tryz.func142,Tryz.ntmps142
 go_wp2_with (go_at_call 123;refine (Compare_str _ _ _).mono ?_;rintro e w' ⟨rfl,rfl⟩)
 go_ret
 exact ⟨rfl,below_by⟩
def keyAt (key:ByteArray) (l:List En):Nat:=lowB (fun x=>decide (cmpB x.key key<0)) l
def keyHas (key:ByteArray) (l:List En):Bool:=foundAt l (keyAt key l) fun y=>cmpB y.key key == 0
def Rk (a b:En):Prop:=cmpB a.key b.key<0
theorem key_h1 {key:ByteArray} {l:List En}:∀ t (ht:t<l.length),t<keyAt key l→cmpB l[t].key key<0:=low_h1 (C:=fun y:En=>cmpB y.key key)
theorem key_h2 {key:ByteArray} {l:List En} (h:l.Pairwise Rk):∀ t (ht:t<l.length),keyAt key l≤t→0≤cmpB l[t].key key:=
 low_h2 (C:=fun y:En=>cmpB y.key key) (fun {i j} hij hj hc=>cmpB_trans (List.pairwise_iff_getElem.1 h i j (by omega) hj hij) hc)
theorem Bin_ent (A:Option Addr) (n c:Nat) (l:List En) (key:ByteArray) (w:World) (hl:l.length≤1048576) (h:StSl w A n c l) (hr:l.Pairwise Rk) :
  Calls Tryz.prog 141 #[.slice A n c,.string key,.func (.func 142) #[] #[]] w fun e w'=>
   e = .returned (.tuple #[.int .i64 (keyAt key l),.bool (keyHas key l)])∧Below w.heap.size w w':=by
 have hln:=h.len
 have hkn:keyAt key l≤l.length:=lowB_le _ _
 have H1:=hide (key_h1 (key:=key) (l:=l));have H2:=hide (key_h2 (key:=key) hr)
 have hkh0:keyHas key l=foundAt l (keyAt key l) fun y=>cmpB y.key key == 0:=rfl
 generalize keyHas key l=kh at *
 generalize keyAt key l=k at *
 have HKH:=hide hkh0
 subst hln
 clear hkh0 hr
 go_enter Tryz.func141,Tryz.ntmps141
 go_wp2
 go_loopw [9,10] (fun s t wr=>∃ lo hi:Nat,s = .int .i64 lo∧t = .int .i64 hi∧lo≤k∧k≤hi∧hi≤l.length∧Below w.heap.size w wr) (fun s t _=>(intOf t - intOf s).toNat)
 case atStart=>exact ⟨0,l.length,rfl,rfl,by omega,by omega,by omega,below_by⟩
 case round=>
  obtain ⟨lo,hi,rfl,rfl,hlk,hkh,hhn,hbr⟩:=hrel
  by_cases hlt:lo<hi
  ·obtain ⟨m,hm⟩:∃ m,m=(lo+hi) / 2:=⟨_,rfl⟩
   have hmi:((lo:Int)+(hi:Int)) / 2=(m:Int):=by omega
   have hml:m<l.length:=by omega
   obtain ⟨b,off,A1,n1,c1,A2,n2,c2,A3,n3,c3,rfl,hb,⟨i0,i1,i2,i3,i4,i5,i6,i7⟩,-,-⟩:=(h.bl hbr).at_ hml
   have hq1:=H1.out m hml
   have hq2:=H2.out m hml
   have HM:=hide hm
   clear hm
   generalize l[m]=y at *
   have hby:=fun w=>byKey_ y (.slice A1 n1 c1) (.slice A2 n2 c2) (.slice A3 n3 c3) key w
   simp only [En.cells] at hby
   have HBY:=hide hby
   clear hby
   have hz1:(0:Int)≤m:=by omega
   have hz2:(m:Int)<l.length:=by omega
   go_wp2_with fail
   refine (HBY.out _).mono ?_
   rintro e w2 ⟨rfl,hb2⟩
   by_cases hc:cmpB y.key key<0
   ·have hmk:m<k:=by
     rcases Nat.lt_or_ge m k with h'|h'
     ·exact h'
     ·have:=hq2 h';omega
    go_wp2_with fail
    go_round
    case rel=>exact ⟨m+1,hi,by go_num,rfl,by omega,by omega,by omega,below_by⟩
    case measure=>have:=HM.out;simp [intOf];omega
   ·have hmk:k≤m:=by
     rcases Nat.lt_or_ge m k with h'|h'
     ·have:=hq1 h';omega
     ·exact h'
    go_wp2_with fail
    go_round
    case rel=>exact ⟨lo,m,rfl,rfl,by omega,by omega,by omega,below_by⟩
    case measure=>have:=HM.out;simp [intOf];omega
  ·obtain rfl:lo=k:=by omega
   obtain rfl:hi=lo:=by omega
   by_cases hkl:hi<l.length
   ·have HF:=hide (HKH.out.trans (foundAt_lt (p:=fun z=>cmpB z.key key == 0) hkl))
    obtain ⟨b,off,A1,n1,c1,A2,n2,c2,A3,n3,c3,rfl,hb,⟨i0,i1,i2,i3,i4,i5,i6,i7⟩,-,-⟩:=(h.bl hbr).at_ hkl
    clear hhn hkn hkh hlk H1 H2 HKH
    generalize l[hi]=y at *
    have hby:=fun w=>byKey_ y (.slice A1 n1 c1) (.slice A2 n2 c2) (.slice A3 n3 c3) key w
    simp only [En.cells] at hby
    have HBY:=hide hby
    clear hby
    have hz1:(0:Int)≤hi:=by omega
    have hz2:(hi:Int)<l.length:=by omega
    go_wp2_with fail
    refine (HBY.out _).mono ?_
    rintro e w2 ⟨rfl,hb2⟩
    go_wp2_with fail
    go_ret2
    exact ⟨by rw [HF.out];rfl,below_by⟩
   ·have HF:=hide (HKH.out.trans (foundAt_ge (p:=fun z=>cmpB z.key key == 0) (show l.length≤hi by omega)))
    have hd:decide ((hi:Int)<(l.length:Int))=false:=by simp;omega
    go_wp2_with fail
    go_ret2
    exact ⟨by rw [HF.out];rfl,below_by⟩
end Go.Proofs.YtgmojjclobkpjaaGreatDoor


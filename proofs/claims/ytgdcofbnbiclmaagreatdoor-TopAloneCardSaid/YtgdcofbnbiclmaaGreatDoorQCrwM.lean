import Derived.Test.YtgdcofbnbiclmaaGreatDoorQCrwP
import Derived.Test.YtgdcofbnbiclmaaGreatDoorQTapG
import Derived.Test.YtgdcofbnbiclmaaGreatDoorQTapS
import Derived.Test.YtgdcofbnbiclmaaGreatDoorQTopC
namespace Go.Proofs.YtgdcofbnbiclmaaGreatDoor
set_option linter.all false
set_option maxHeartbeats 32000000
open Go.RowKit
theorem wpList_push_k {P:Program} {w:World} {ops:Array Oper} {rest:List Oper} {o:Oper} {a:Act} {Q:Exit→Act→World→Prop} (hgd:o.guard=none) (s x:Operand) (t:TypeId)
  (ho:o.op = .call { callee:=.builtin .append,args:=#[s,x],argTypes:=#[t,t] })
  {base:Nat} {e:TypeId} {z:Value} {size bytes:Nat} (ht:P.underlying t=some (.slice e)) (hi:(P.info? e).map (fun i=>(i.zero,i.size,i.bytes))=some (some z,size,bytes)) (hzs:z.cells.size=size) (hsz:0<size)
  {A:Option Addr} {n c:Nat} {rows:List (List Value)} (hs:a.eval s = .slice A n c) (hown:Own w base e size (.slice A n c) rows) {H:Nat} (hH:w.heap.size=H) {row:Array Value} (hx:a.eval x = .slice (some ⟨H,0,none⟩) 1 1) (hl:row.size=size) (h1:∀ u∈row.toList,u.oneCell'=true)
  (h63:n+1≤maxLen) (hbytes:(n+1)*bytes≤140737488355328) (hbase:base≤w.heap.size)
  (h:∀ A' c' w',Own w' base e size (.slice A' (n+1) c') (rows ++ [row.toList])→(w.alloc (.cells row e)).grownBy w' (Value.slice A n c).ownBlock→((Value.slice A' (n+1) c').ownBlock=(Value.slice A n c).ownBlock∨∀ b,(Value.slice A' (n+1) c').ownBlock=some b→w.heap.size<b)→wpList P ops Q rest (a.put o.dst (.slice A' (n+1) c')) w'):wpList P ops Q (o :: rest) a (w.alloc (.cells row e)):=by
 subst hH
 obtain ⟨i,hi1,hi2,hi3,hi4⟩:=info_parts hi
 have hl0:=hown.sl'.len
 have hN:=Blk.new w e row
 have hnew:∀ j v,row.toList[j]?=some v→(w.alloc (.cells row e)).cell? ((⟨w.heap.size,0,none⟩:Addr).add j)=some v:=by
  intro j v hv
  rw [Addr.add_lit,Nat.zero_add,hN.cell,←Array.getElem?_toList];exact hv
 have hrow:∀ r∈rows ++ [row.toList],r.length=size:=by
  intro r hr
  rcases List.mem_append.1 hr with hr|hr
  ·exact hown.2 r hr
  ·simp at hr;subst hr;simpa using hl
 have grow:∀ v' w',w'.ownsRow (w.alloc (.cells row e)).heap.size e size v' (n+1) (rows.flatten ++ row.toList)→(w.alloc (.cells row e)).grownBy w' none→wpList P ops Q rest (a.put o.dst v') w':=by
  intro v' w' ho' hg
  have ho2:Own w' (w.alloc (.cells row e)).heap.size e size v' (rows ++ [row.toList]):=⟨by simpa [hl0] using ho',hrow⟩
  obtain ⟨A',c',rfl,hsl⟩:=ho2.sl
  have hln:(rows ++ [row.toList]).length=n+1:=by simp [hl0]
  rw [hln] at ho2 ⊢
  refine h A' c' w' (ho2.mono (by simp;omega)) ⟨hg.os,hg.tape,hg.output,hg.size,fun k hk _=>hg.block k hk (by simp)⟩ (.inr fun b hb=>?_)
  rcases ho2.form with ⟨hv,_⟩|⟨g,cap,hv,hg',_⟩
  ·rw [hv] at hb;simp [Value.ownBlock] at hb
  ·rw [hv] at hb;simp [Value.ownBlock] at hb;simp at hg';omega
 have hown':=hown.alloc (.cells row e)
 rcases hown'.form with ⟨hv,rfl⟩|⟨g,cap,hv,hg,h2,h3,cur,h4,h5,h6⟩
 ·injection hv with e1 e2 e3
  subst e1;subst e2;subst e3
  exact wpList_append_grows _ hgd s x t ho e i z size bytes ht hi1 hi2 hi3 hi4 hzs hsz none 0 0 [] hs (by simp) (by simp) (by simp) ⟨w.heap.size,0,none⟩ 1 1 row.toList hx (by simp [hl]) hnew h1 (by omega) h63 hbytes (by simpa using grow)
 ·injection hv with e1 e2 e3
  subst e1;subst e3
  rw [←e2] at h2 h6
  by_cases hr:n+1≤c
  ·have hms:(n+1)*size≤c*size:=Nat.mul_le_mul_right _ hr
   rw [Nat.add_mul,Nat.one_mul] at hms
   have hrun:=run_append_room (P:=P) (w.alloc (.cells row e)) t o.type e i ht hi1 g n c cur h4 ⟨w.heap.size,0,none⟩ 1 1 row.toList (by simp [hl,hi3]) hnew h1 hr (by rw [hi3,h5];simpa [hl] using hms)
   rw [hi3] at hrun
   refine wpList_plain hgd fun _ hK=>?_
   unfold Oper.wp execOp
   simp only [ho,resolve,invoke,builtin,Sem.run_bind,Sem.run_pure,Result.andThen_ok,List.map_toArray,List.map_cons,List.map_nil,hs,hx,hrun]
   refine hK _ _ (h _ _ _ ?_ (grown_setRow _ _ _) (.inl rfl))
   have hcl:cur.toList.length=c*size:=by simpa using h5
   have hfl:rows.flatten.length=n*size:=by rw [flatten_length hown.2,hl0]
   have:=Own.put (e:=e) (cur':=(cur.toList.take (n*size) ++ row.toList ++ cur.toList.drop (n*size+row.toList.length)).toArray) hg h4 h3 (by simp only [List.size_toArray,List.length_append,List.length_take,List.length_drop,Array.length_toList,hl];omega) hrow (by simp [hl0];omega) (by
    have hll:(rows ++ [row.toList]).length*size=rows.flatten.length+row.toList.length:=by simp [hl0,hfl,hl,Nat.add_mul]
    rw [hll,h6]
    simp only [List.flatten_append,List.flatten_cons,List.flatten_nil,List.append_nil]
    rw [←List.length_append]
    exact List.take_left)
   simpa [hl0] using this
  ·refine wpList_append_grows _ hgd s x t ho e i z size bytes ht hi1 hi2 hi3 hi4 hzs hsz (some ⟨g,0,none⟩) n c rows.flatten hs (by simp) (by rw [flatten_length hown.2,hl0]) ?_ ⟨w.heap.size,0,none⟩ 1 1 row.toList hx (by simp [hl]) hnew h1 (by omega) h63 hbytes grow
   intro b hb j u hu
   exact src_cells hsz hown'.sl' hb j u hu
def immT (t:TypeId):Bool:=t == 160 || t == 9 || t == 163 || t == 84 || t == 142 || t == 67 || t == 5
structure FrI (w w':World):Prop where
 size:w.heap.size≤w'.heap.size
 keep:∀ t,immT t=true→∀ k cs,Blk w k t cs→Blk w' k t cs
section
variable {w w' w'':World} {A:Option Addr} {n c:Nat} {t:TypeId}
theorem FrI.refl (w:World):FrI w w:=⟨Nat.le_refl _,fun _ _ _ _ h=>h⟩
theorem FrI.trans (h:FrI w w') (k:FrI w' w''):FrI w w'':=⟨Nat.le_trans h.size k.size,fun t ht b cs hb=>k.keep t ht b cs (h.keep t ht b cs hb)⟩
theorem FrI.of (h:Below w.heap.size w w'):FrI w w':=⟨h.size,fun _ _ _ _ hb=>hb.below' h⟩
theorem FrI.fr (h:FrI w w'):Fr w w':=⟨h.size,h.keep _ (by decide),h.keep _ (by decide),h.keep _ (by decide)⟩
theorem FrI.grown {g:Nat} {cs:Array Value} (R:Blk w g t cs) (hg:w.grownBy w' (some g)) (ht:immT t=false:=by decide):FrI w w':=
 ⟨hg.size,fun t' ht' k cs' hb=>grown_blk hb hg (blk_ne hb R (by rintro rfl;rw [ht] at ht';cases ht'))⟩
theorem FrI.own {B size:Nat} {v:Value} {rows:List (List Value)} (ho:Own w B t size v rows) (hg:w.grownBy w' v.ownBlock) (ht:immT t=false:=by decide):FrI w w':=
 ⟨hg.size,fun t' ht' k cs' hb=>blk_other hb ho hg (by rintro rfl;rw [ht] at ht';cases ht')⟩
theorem Tp.fri (h:Tp w A t) (f:FrI w w') (ht:immT t=true:=by decide):Tp w' A t:=fun a ha=>by
 obtain ⟨cs,hc⟩:=h a ha;exact ⟨cs,f.keep t ht _ _ hc⟩
theorem Sl.fri {size:Nat} {rows:List (List Value)} (h:Sl w size A n c rows) (T:Tp w A t) (f:FrI w w') (ht:immT t=true:=by decide):Sl w' size A n c rows:=
 h.kept f.size fun a ha _=>by obtain ⟨cs,hc⟩:=T a ha;exact (f.keep t ht _ _ hc).trans hc.symm
theorem St.fri {l:List En} (h:St w A n c l) (f:FrI w w'):St w' A n c l:=by
 obtain ⟨rows,h1,h2⟩:=h.sl
 exact ⟨⟨rows,h1.fri h.tp f,h2.fr f.fr⟩,h.tp.fri f⟩
theorem Ci.fri {l:List Cl} (h:Ci w A n c l) (f:FrI w w'):Ci w' A n c l:=by
 obtain ⟨rows,h1,h2⟩:=h.sl
 exact ⟨⟨rows,h1.fri h.tp f,h2.fr f.fr⟩,h.tp.fri f⟩
theorem TxSl.fri {l:List ByteArray} (h:TxSl w A n c l) (f:FrI w w'):TxSl w' A n c l:=h.fr f.fr
theorem TpSl.fri {l:List Value} (h:TpSl w A n c l) (f:FrI w w'):TpSl w' A n c l:=⟨h.sl.fri h.tp f,h.u8,h.tp.fri f⟩
theorem Own.fri {B size:Nat} {v:Value} {rows:List (List Value)} (h:Own w B t size v rows) (f:FrI w w') (ht:immT t=true:=by decide):Own w' B t size v rows:=by
 refine ⟨⟨h.1.1,?_⟩,h.2⟩
 rcases h.1.2 with h1|⟨g,cap,cur,h1,h2,h3,h4⟩
 ·exact .inl h1
 ·exact .inr ⟨g,cap,cur,h1,h2,f.keep t ht _ _ h3,h4⟩
theorem OI.fri {l:List Itm} (h:OI w A n c l) (f:FrI w w'):OI w' A n c l:=by obtain ⟨B,h⟩:=h;exact ⟨B,h.fri f⟩
end
def Rws {α:Type} (R:α→List Value→Prop):List α→List (List Value)→Prop
 | [],[]=>True
 | x :: l,r :: rows=>R x r∧Rws R l rows
 | _,_=>False
section
variable {α:Type} {R S:α→List Value→Prop}
theorem Rws.mono (h:∀ x r,R x r→S x r):∀ {l:List α} {rows:List (List Value)},Rws R l rows→Rws S l rows
 | [],[],_=>trivial
 | _ :: _,_ :: _,k=>⟨h _ _ k.1,Rws.mono h k.2⟩
 | [],_ :: _,k=>k.elim
 | _ :: _,[],k=>k.elim
theorem Rws.len:∀ {l:List α} {rows:List (List Value)},Rws R l rows→l.length=rows.length
 | [],[],_=>rfl
 | _ :: _,_ :: _,h=>by simp [Rws.len h.2]
 | [],_ :: _,h=>h.elim
 | _ :: _,[],h=>h.elim
theorem Rws.at_:∀ {l:List α} {rows:List (List Value)},Rws R l rows→∀ {k:Nat} (hk:k<l.length),∃ r,rows[k]?=some r∧R l[k] r
 | [],_,_,k,hk=>by simp at hk
 | _ :: _,r :: _,h,0,_=>⟨r,rfl,h.1⟩
 | _ :: _,_ :: _,h,k+1,hk=>Rws.at_ h.2 (k:=k) (by simpa using hk)
 | _ :: _,[],h,_,_=>h.elim
theorem Rws.mem:∀ {l:List α} {rows:List (List Value)},Rws R l rows→∀ r∈rows,∃ x,R x r
 | [],[],_,_,hr=>by cases hr
 | x :: _,_ :: _,h,r,hr=>by
  rcases List.mem_cons.1 hr with rfl|hr
  ·exact ⟨x,h.1⟩
  ·exact Rws.mem h.2 r hr
 | [],_ :: _,h,_,_=>h.elim
 | _ :: _,[],h,_,_=>h.elim
theorem Rws.app:∀ {l:List α} {rows:List (List Value)},Rws R l rows→∀ {l':List α} {rows':List (List Value)},Rws R l' rows'→Rws R (l ++ l') (rows ++ rows')
 | [],[],_,_,_,k=>k
 | _ :: _,_ :: _,h,_,_,k=>⟨h.1,Rws.app h.2 k⟩
 | [],_ :: _,h,_,_,_=>h.elim
 | _ :: _,[],h,_,_,_=>h.elim
theorem Rws.one (x:α) (r:List Value) (h:R x r):Rws R [x] [r]:=⟨h,trivial⟩
theorem Rws.erase:∀ {l:List α} {rows:List (List Value)},Rws R l rows→∀ k,Rws R (l.eraseIdx k) (rows.eraseIdx k)
 | [],[],_,k=>by cases k <;> trivial
 | _ :: _,_ :: _,h,0=>h.2
 | _ :: _,_ :: _,h,k+1=>⟨h.1,Rws.erase h.2 k⟩
 | [],_ :: _,h,_=>h.elim
 | _ :: _,[],h,_=>h.elim
end
def msgC (m:Msg) (I E C:Value):List Value:=[.int .i64 m.src,.int .i64 m.dst,.int .i64 m.kind,.int .i64 m.term,.int .i64 m.last,.int .i64 m.lastTerm,.bool m.yes,.int .i64 m.commit,I,.int .i64 m.si,.int .i64 m.st,.int .i64 m.sm.now,E,.int .i64 m.sm.next,C]
def MsgAt (w:World) (m:Msg) (r:List Value):Prop:=∃ (I:Option Addr) (i1 i2:Nat) (E:Option Addr) (e1 e2:Nat) (C:Option Addr) (c1 c2:Nat),r=msgC m (.slice I i1 i2) (.slice E e1 e2) (.slice C c1 c2)∧OI w I i1 i2 m.items∧St w E e1 e2 m.sm.ents∧Ci w C c1 c2 m.sm.clis
def wtC (x:Wt):List Value:=[.int .i64 x.place,.int .i64 x.term,.int .i64 x.call.client,.int .i64 x.call.seq,.int .i64 x.call.cmd.kind,.string x.call.cmd.key,.string x.call.cmd.field,.string x.call.cmd.text,.int .i64 x.call.cmd.n]
def tlC (x:Tl) (Y:Value):List Value:=[.int .i64 x.node,.int .i64 x.call.client,.int .i64 x.call.seq,.int .i64 x.call.cmd.kind,.string x.call.cmd.key,.string x.call.cmd.field,.string x.call.cmd.text,.int .i64 x.call.cmd.n,.int .i64 x.rep.code,.string x.rep.text,.int .i64 x.rep.n,Y]
def TlAt (w:World) (x:Tl) (r:List Value):Prop:=∃ Y m d,r=tlC x (.slice Y m d)∧TxSl w Y m d x.rep.list
def ldC (x:Int×Int):List Value:=[.int .i64 x.1,.int .i64 x.2]
theorem MsgAt.fri {w w':World} {m:Msg} {r:List Value} (h:MsgAt w m r) (f:FrI w w'):MsgAt w' m r:=by
 obtain ⟨I,i1,i2,E,e1,e2,C,c1,c2,h1,h2,h3,h4⟩:=h
 exact ⟨I,i1,i2,E,e1,e2,C,c1,c2,h1,h2.fri f,h3.fri f,h4.fri f⟩
theorem TlAt.fri {w w':World} {x:Tl} {r:List Value} (h:TlAt w x r) (f:FrI w w'):TlAt w' x r:=by
 obtain ⟨Y,m,d,h1,h2⟩:=h
 exact ⟨Y,m,d,h1,h2.fri f⟩
theorem MsgAt.one {w:World} {m:Msg} {r:List Value} (h:MsgAt w m r):∀ u∈r,u.oneCell'=true:=by
 obtain ⟨I,i1,i2,E,e1,e2,C,c1,c2,rfl,_⟩:=h;exact all_one rfl
def OwnR {α:Type} (w:World) (base:Nat) (t:TypeId) (size:Nat) (R:α→List Value→Prop) (v:Value) (l:List α):Prop:=∃ rows,Own w base t size v rows∧Rws R l rows
abbrev MSl (w:World) (base:Nat) (v:Value) (l:List Msg):Prop:=OwnR w base 153 15 (MsgAt w) v l
abbrev WSl (w:World) (base:Nat) (v:Value) (l:List Wt):Prop:=OwnR w base 185 9 (fun x r=>r=wtC x) v l
abbrev TSl (w:World) (base:Nat) (v:Value) (l:List Tl):Prop:=OwnR w base 78 12 (TlAt w) v l
abbrev LSl (w:World) (base:Nat) (v:Value) (l:List (Int×Int)):Prop:=OwnR w base 95 2 (fun x r=>r=ldC x) v l
structure NA where
 lg:Value
 se:Value
 sc:Value
 me:Value
 mc:Value
 wa:Value
 ta:Value
 ou:Value
def nodeC (n:Nd) (a:NA):List Value:=[.int .i64 n.me,.bool n.up,.int .i64 n.clock,.int .i64 n.role,.int .i64 n.term,.int .i64 n.vote,.int .i64 n.b,.int .i64 n.bt,a.lg,.int .i64 n.si,.int .i64 n.st,.int .i64 n.sm.now,a.se,.int .i64 n.sm.next,a.sc,
 .int .i64 n.m.now,a.me,.int .i64 n.m.next,a.mc,.int .i64 n.commit,.bool n.votes.x,.bool n.votes.y,.bool n.votes.z,.int .i64 n.next.x,.int .i64 n.next.y,.int .i64 n.next.z,.int .i64 n.mat.x,.int .i64 n.mat.y,.int .i64 n.mat.z,a.wa,a.ta,.int .i64 n.syn,a.ou]
structure NRep (w:World) (base:Nat) (n:Nd) (a:NA):Prop where
 lg:∃ A k c,a.lg = .slice A k c∧OI w A k c n.L
 se:∃ A k c,a.se = .slice A k c∧St w A k c n.sm.ents
 sc:∃ A k c,a.sc = .slice A k c∧Ci w A k c n.sm.clis
 me:∃ A k c,a.me = .slice A k c∧St w A k c n.m.ents
 mc:∃ A k c,a.mc = .slice A k c∧Ci w A k c n.m.clis
 ta:∃ A k c,a.ta = .slice A k c∧TpSl w A k c (tapeB n.recs)
 wa:WSl w base a.wa n.waits
 ou:MSl w base a.ou n.out
section
variable {α:Type}
theorem T3.get_set (t:T3 α) {i:Nat} (hi:i<3) (v:α):(t.set i v).get i=v:=by
 match i,hi with|0,_=>rfl|1,_=>rfl|2,_=>rfl
theorem T3.get_ne (t:T3 α) {i j:Nat} (hi:i<3) (hj:j<3) (h:j≠i) (v:α):(t.set i v).get j=t.get j:=by
 match i,hi,j,hj with|0,_,0,_=>exact absurd rfl h|0,_,1,_=>rfl|0,_,2,_=>rfl|1,_,0,_=>rfl|1,_,1,_=>exact absurd rfl h|1,_,2,_=>rfl|2,_,0,_=>rfl|2,_,1,_=>rfl|2,_,2,_=>exact absurd rfl h
theorem T3.set_get (t:T3 α) {i:Nat} (hi:i<3):t.set i (t.get i)=t:=by
 match i,hi with|0,_=>rfl|1,_=>rfl|2,_=>rfl
theorem T3.set_set (t:T3 α) {i:Nat} (hi:i<3) (u v:α):(t.set i u).set i v=t.set i v:=by
 match i,hi with|0,_=>rfl|1,_=>rfl|2,_=>rfl
end
structure Raw (w:World) (K:Nat) (rs:T3 (List Value)) (v:T3 Value):Prop where
 blk:Blk w K 121 (rs.x ++ (rs.y ++ (rs.z ++ [v.x,v.y,v.z]))).toArray
 lx:rs.x.length=33
 ly:rs.y.length=33
 lz:rs.z.length=33
section
variable {w w':World} {K:Nat} {rs:T3 (List Value)} {v:T3 Value}
theorem Raw.cell (h:Raw w K rs v) {i j:Nat} (hi:i<3) (hj:j<33):w.cell? ⟨K,i*33+j,none⟩=(rs.get i)[j]?:=by
 have hx:=h.lx;have hy:=h.ly;have hz:=h.lz
 rw [h.blk.cell]
 simp only [List.getElem?_toArray]
 match i,hi with
 | 0,_=>rw [List.getElem?_append_left (by omega)];simp [T3.get]
 | 1,_=>rw [List.getElem?_append_right (by omega),List.getElem?_append_left (by omega)];simp only [T3.get];congr 1;omega
 | 2,_=>rw [List.getElem?_append_right (by omega),List.getElem?_append_right (by omega),List.getElem?_append_left (by omega)];simp only [T3.get];congr 1;omega
theorem Raw.top (h:Raw w K rs v):w.cell? ⟨K,99,none⟩=some v.x∧w.cell? ⟨K,100,none⟩=some v.y∧w.cell? ⟨K,101,none⟩=some v.z:=by
 have hx:=h.lx;have hy:=h.ly;have hz:=h.lz
 refine ⟨?_,?_,?_⟩ <;> rw [h.blk.cell] <;> simp only [List.getElem?_toArray] <;> rw [List.getElem?_append_right (by omega),List.getElem?_append_right (by omega),List.getElem?_append_right (by omega)] <;> simp [hx,hy,hz]
theorem Raw.froz (h:Raw w K rs v) (j:Nat):w.frozen? ⟨K,j,none⟩=false:=h.blk.frozen j
theorem Raw.set (h:Raw w K rs v) {i j:Nat} (hi:i<3) (hj:j<33) (u:Value):Raw (w.setCell ⟨K,i*33+j,none⟩ u) K (rs.set i ((rs.get i).set j u)) v:=by
 have hx:=h.lx;have hy:=h.ly;have hz:=h.lz
 match i,hi with
 | 0,_=>exact ⟨h.blk.set' (by simp only [List.setIfInBounds_toArray,Nat.zero_mul,Nat.zero_add];rw [List.set_append_left _ _ (by omega)];rfl),by simp [T3.set,T3.get,hx],hy,hz⟩
 | 1,_=>exact ⟨h.blk.set' (by simp only [List.setIfInBounds_toArray];rw [List.set_append_right _ _ (by omega),List.set_append_left _ _ (by omega)];simp only [T3.set,T3.get];rw [show 1*33+j - rs.x.length=j by omega]),hx,by simp [T3.set,T3.get,hy],hz⟩
 | 2,_=>exact ⟨h.blk.set' (by simp only [List.setIfInBounds_toArray];rw [List.set_append_right _ _ (by omega),List.set_append_right _ _ (by omega),List.set_append_left _ _ (by omega)];simp only [T3.set,T3.get];rw [show 2*33+j - rs.x.length - rs.y.length=j by omega]),hx,hy,by simp [T3.set,T3.get,hz]⟩
theorem Raw.put {i:Nat} {row:List Value} (h:Raw w K (rs.set i row) v) (hi:i<3) (j:Nat) (hj:j<33) (u:Value):Raw (w.setCell ⟨K,i*33+j,none⟩ u) K (rs.set i (row.set j u)) v:=by
 have:=h.set hi hj u
 rwa [T3.get_set _ hi,T3.set_set _ hi] at this
theorem Raw.setTop (h:Raw w K rs v) (j:Nat) (hj:j<3) (u:Value):Raw (w.setCell ⟨K,99+j,none⟩ u) K rs (v.set j u):=by
 have hx:=h.lx;have hy:=h.ly;have hz:=h.lz
 refine ⟨h.blk.set' ?_,hx,hy,hz⟩
 simp only [List.setIfInBounds_toArray]
 rw [List.set_append_right _ _ (by omega),List.set_append_right _ _ (by omega),List.set_append_right _ _ (by omega),show 99+j - rs.x.length - rs.y.length - rs.z.length=j by omega]
 match j,hj with|0,_=>rfl|1,_=>rfl|2,_=>rfl
theorem Raw.same (h:Raw w K rs v) (hb:w'.heap[K]?=w.heap[K]?):Raw w' K rs v:=⟨hb.trans h.blk,h.lx,h.ly,h.lz⟩
end
def slotV (a:T3 NA) (v:T3 Value):Nat→Value
 | 0=>a.x.ou|1=>a.y.ou|2=>a.z.ou|3=>a.x.wa|4=>a.y.wa|5=>a.z.wa|6=>v.x|7=>v.y|_=>v.z
def rowsOf (s:T3 Nd) (a:T3 NA):T3 (List Value):=⟨nodeC s.x a.x,nodeC s.y a.y,nodeC s.z a.z⟩
def Mut (K:Nat) (a:T3 NA) (v:T3 Value) (b:Nat):Prop:=b=K∨∃ j,j<9∧(slotV a v j).ownBlock=some b
structure Crw (w:World) (base K:Nat) (a:T3 NA) (v:T3 Value) (s:Cw):Prop where
 raw:Raw w K (rowsOf s.nd a) v
 rep:∀ i,i<3→NRep w base (s.nd.get i) (a.get i)
 aw:MSl w base v.x s.away
 tl:TSl w base v.y s.told
 le:LSl w base v.z s.led
 kb:base≤K
 bw:base≤w.heap.size
 apart:∀ i j,i<9→j<9→i≠j→∀ b,(slotV a v i).ownBlock=some b→(slotV a v j).ownBlock≠some b
structure Keep (M M':Nat→Prop) (w w':World):Prop where
 os:w'.os=w.os
 tape:w'.tape=w.tape
 output:w'.output=w.output
 size:w.heap.size≤w'.heap.size
 blk:∀ k,k<w.heap.size→¬ M k→w'.heap[k]?=w.heap[k]?
 sub:∀ k,M' k→M k∨w.heap.size≤k
 fr:FrI w w'
section
variable {α:Type} {w w' w'':World} {base K:Nat} {a a':T3 NA} {v v':T3 Value} {s s':Cw} {M M' M'':Nat→Prop}
theorem Keep.trans (h:Keep M M' w w') (k:Keep M' M'' w' w''):Keep M M'' w w'':=
 ⟨k.os.trans h.os,k.tape.trans h.tape,k.output.trans h.output,Nat.le_trans h.size k.size,
  fun b hb hM=>(k.blk b (Nat.lt_of_lt_of_le hb h.size) (fun hm=>(h.sub b hm).elim hM (fun hh=>by omega))).trans (h.blk b hb hM),
  fun b hb=>(k.sub b hb).elim (fun hm=>h.sub b hm) (fun hh=>.inr (Nat.le_trans h.size hh)),h.fr.trans k.fr⟩
theorem Keep.of (h:Below w.heap.size w w'):Keep M M w w':=⟨h.os,h.tape,h.output,h.size,fun k hk _=>h.block k hk,fun _ hk=>.inl hk,FrI.of h⟩
theorem Keep.loc (h:Keep M M' w w') {b:Nat} {t:TypeId} {cs:Array Value} (hB:Blk w b t cs) (hM:¬ M b):Blk w' b t cs:=(h.blk b hB.lt hM).trans hB
theorem Keep.not (h:Keep M M' w w') {b:Nat} (hb:b<w.heap.size) (hM:¬ M b):¬ M' b:=fun hm=>(h.sub b hm).elim hM (fun hh=>by omega)
theorem Keep.below (h:Keep M M' w w') {B:Nat} (hB:B≤w.heap.size) (hM:∀ b,M b→B≤b):Below B w w':=⟨h.os,h.tape,h.output,h.size,fun k hk=>h.blk k (by omega) (fun hm=>by have:=hM k hm;omega)⟩
theorem own_same {t:TypeId} {size:Nat} {u:Value} {rows:List (List Value)} (h:Own w base t size u rows) (hk:∀ b,u.ownBlock=some b→w'.heap[b]?=w.heap[b]?):Own w' base t size u rows:=by
 refine ⟨⟨h.1.1,?_⟩,h.2⟩
 rcases h.1.2 with h1|⟨g,cap,cur,rfl,h2,h3,h4⟩
 ·exact .inl h1
 ·exact .inr ⟨g,cap,cur,rfl,h2,(hk g (by simp [Value.ownBlock])).trans h3,h4⟩
theorem OwnR.keep {t:TypeId} {size:Nat} {R R':α→List Value→Prop} {u:Value} {l:List α} (h:OwnR w base t size R u l) (hR:∀ x r,R x r→R' x r) (hk:∀ b,u.ownBlock=some b→w'.heap[b]?=w.heap[b]?):OwnR w' base t size R' u l:=by
 obtain ⟨rows,h1,h2⟩:=h
 exact ⟨rows,own_same h1 hk,h2.mono hR⟩
theorem OwnR.lt {t:TypeId} {size:Nat} {R:α→List Value→Prop} {u:Value} {l:List α} (h:OwnR w base t size R u l) {b:Nat} (hb:u.ownBlock=some b):b<w.heap.size∧base≤b∧∃ cs,Blk w b t cs:=by
 obtain ⟨rows,h1,_⟩:=h
 obtain ⟨cur,hc⟩:=own_typed h1 hb
 rcases h1.form with ⟨rfl,_⟩|⟨g,cap,rfl,hg,_⟩
 ·simp [Value.ownBlock] at hb
 ·simp [Value.ownBlock] at hb;subst hb
  exact ⟨Blk.lt hc,hg,cur,hc⟩
theorem OwnR.nil {t:TypeId} {size:Nat} {R:α→List Value→Prop}:OwnR w base t size R (.slice none 0 0) []:=⟨[],Own.nil,trivial⟩
theorem OwnR.form {t:TypeId} {size:Nat} {R:α→List Value→Prop} {u:Value} {l:List α} (h:OwnR w base t size R u l):∃ A c rows,u = .slice A l.length c∧Own w base t size (.slice A l.length c) rows∧Rws R l rows∧Sl w size A l.length c rows:=by
 obtain ⟨rows,h1,h2⟩:=h
 obtain ⟨A,c,rfl,hs⟩:=h1.sl
 have:=h2.len
 rw [←this] at h1 hs ⊢
 exact ⟨A,c,rows,rfl,h1,h2,hs⟩
theorem NRep.keep {n:Nd} {x:NA} (h:NRep w base n x) (f:FrI w w') (hk:∀ b,x.wa.ownBlock=some b∨x.ou.ownBlock=some b→w'.heap[b]?=w.heap[b]?):NRep w' base n x where
 lg:=by obtain ⟨A,k,c,e,h⟩:=h.lg;exact ⟨A,k,c,e,h.fri f⟩
 se:=by obtain ⟨A,k,c,e,h⟩:=h.se;exact ⟨A,k,c,e,h.fri f⟩
 sc:=by obtain ⟨A,k,c,e,h⟩:=h.sc;exact ⟨A,k,c,e,h.fri f⟩
 me:=by obtain ⟨A,k,c,e,h⟩:=h.me;exact ⟨A,k,c,e,h.fri f⟩
 mc:=by obtain ⟨A,k,c,e,h⟩:=h.mc;exact ⟨A,k,c,e,h.fri f⟩
 ta:=by obtain ⟨A,k,c,e,h⟩:=h.ta;exact ⟨A,k,c,e,h.fri f⟩
 wa:=h.wa.keep (fun _ _ h=>h) (fun b hb=>hk b (.inl hb))
 ou:=h.ou.keep (fun _ _ h=>h.fri f) (fun b hb=>hk b (.inr hb))
theorem slot_out {i:Nat} (hi:i<3):slotV a v i=(a.get i).ou:=by match i,hi with|0,_=>rfl|1,_=>rfl|2,_=>rfl
theorem slot_wait {i:Nat} (hi:i<3):slotV a v (3+i)=(a.get i).wa:=by match i,hi with|0,_=>rfl|1,_=>rfl|2,_=>rfl
theorem Crw.slot (h:Crw w base K a v s) {j:Nat} (hj:j<9) {b:Nat} (hb:(slotV a v j).ownBlock=some b):b<w.heap.size∧base≤b∧∃ t cs,Blk w b t cs∧immT t=false∧t≠121:=by
 match j,hj with
 | 0,_=>obtain ⟨h1,h2,cs,h3⟩:=(h.rep 0 (by omega)).ou.lt hb;exact ⟨h1,h2,_,cs,h3,by decide,by decide⟩
 | 1,_=>obtain ⟨h1,h2,cs,h3⟩:=(h.rep 1 (by omega)).ou.lt hb;exact ⟨h1,h2,_,cs,h3,by decide,by decide⟩
 | 2,_=>obtain ⟨h1,h2,cs,h3⟩:=(h.rep 2 (by omega)).ou.lt hb;exact ⟨h1,h2,_,cs,h3,by decide,by decide⟩
 | 3,_=>obtain ⟨h1,h2,cs,h3⟩:=(h.rep 0 (by omega)).wa.lt hb;exact ⟨h1,h2,_,cs,h3,by decide,by decide⟩
 | 4,_=>obtain ⟨h1,h2,cs,h3⟩:=(h.rep 1 (by omega)).wa.lt hb;exact ⟨h1,h2,_,cs,h3,by decide,by decide⟩
 | 5,_=>obtain ⟨h1,h2,cs,h3⟩:=(h.rep 2 (by omega)).wa.lt hb;exact ⟨h1,h2,_,cs,h3,by decide,by decide⟩
 | 6,_=>obtain ⟨h1,h2,cs,h3⟩:=h.aw.lt hb;exact ⟨h1,h2,_,cs,h3,by decide,by decide⟩
 | 7,_=>obtain ⟨h1,h2,cs,h3⟩:=h.tl.lt hb;exact ⟨h1,h2,_,cs,h3,by decide,by decide⟩
 | 8,_=>obtain ⟨h1,h2,cs,h3⟩:=h.le.lt hb;exact ⟨h1,h2,_,cs,h3,by decide,by decide⟩
theorem Crw.mut_lt (h:Crw w base K a v s) {b:Nat} (hb:Mut K a v b):b<w.heap.size∧base≤b:=by
 rcases hb with rfl|⟨j,hj,hb⟩
 ·exact ⟨h.raw.blk.lt,h.kb⟩
 ·obtain ⟨h1,h2,_⟩:=h.slot hj hb;exact ⟨h1,h2⟩
theorem Crw.notK (h:Crw w base K a v s) {j:Nat} (hj:j<9) {b:Nat} (hb:(slotV a v j).ownBlock=some b):b≠K:=by
 rintro rfl
 obtain ⟨_,_,t,cs,h3,_,h5⟩:=h.slot hj hb
 have:=h3.symm.trans h.raw.blk
 injection this with this
 injection this with _ this
 exact h5 this
theorem Crw.moved (h:Crw w base K a v s) (hs:w.heap.size≤w'.heap.size) (f:FrI w w') (hK:w'.heap[K]?=w.heap[K]?) (hk:∀ j,j<9→∀ b,(slotV a v j).ownBlock=some b→w'.heap[b]?=w.heap[b]?):Crw w' base K a v s where
 raw:=h.raw.same hK
 rep:=fun i hi=>(h.rep i hi).keep f fun b hb=>hb.elim (fun hb=>hk (3+i) (by omega) b (by rw [slot_wait hi];exact hb)) (fun hb=>hk i (by omega) b (by rw [slot_out hi];exact hb))
 aw:=h.aw.keep (fun _ _ h=>h.fri f) (hk 6 (by omega))
 tl:=h.tl.keep (fun _ _ h=>h.fri f) (hk 7 (by omega))
 le:=h.le.keep (fun _ _ h=>h) (hk 8 (by omega))
 kb:=h.kb
 bw:=Nat.le_trans h.bw hs
 apart:=h.apart
theorem Crw.bl (h:Crw w base K a v s) (hb:Below w.heap.size w w'):Crw w' base K a v s:=
 h.moved hb.size (FrI.of hb) (hb.block K h.raw.blk.lt) fun j hj b hbb=>hb.block b (h.slot hj hbb).1
end
section
variable {w w' w1:World} {base K i:Nat} {a:T3 NA} {v:T3 Value} {s:Cw} {n':Nd} {x':NA} {u old:Value}
theorem rows_set (hi:i<3):rowsOf (s.nd.set i n') (a.set i x')=(rowsOf s.nd a).set i (nodeC n' x'):=by
 match i,hi with|0,_=>rfl|1,_=>rfl|2,_=>rfl
theorem rows_get (hi:i<3):(rowsOf s.nd a).get i=nodeC (s.nd.get i) (a.get i):=by
 match i,hi with|0,_=>rfl|1,_=>rfl|2,_=>rfl
theorem slot_set (hi:i<3) (hou:x'.ou=(a.get i).ou∨x'.ou = .slice none 0 0) (hwa:x'.wa=(a.get i).wa∨x'.wa = .slice none 0 0):∀ j,j<9→∀ b,(slotV (a.set i x') v j).ownBlock=some b→(slotV a v j).ownBlock=some b:=by
 have e1:∀ b,x'.ou.ownBlock=some b→(a.get i).ou.ownBlock=some b:=fun b hb=>by
  rcases hou with h|h
  ·rw [h] at hb;exact hb
  ·rw [h] at hb;simp [Value.ownBlock] at hb
 have e2:∀ b,x'.wa.ownBlock=some b→(a.get i).wa.ownBlock=some b:=fun b hb=>by
  rcases hwa with h|h
  ·rw [h] at hb;exact hb
  ·rw [h] at hb;simp [Value.ownBlock] at hb
 intro j hj b hb
 match i,hi,j,hj with
 | 0,_,0,_=>exact e1 b hb
 | 1,_,1,_=>exact e1 b hb
 | 2,_,2,_=>exact e1 b hb
 | 0,_,3,_=>exact e2 b hb
 | 1,_,4,_=>exact e2 b hb
 | 2,_,5,_=>exact e2 b hb
 | 0,_,1,_|0,_,2,_|0,_,4,_|0,_,5,_|0,_,6,_|0,_,7,_|0,_,8,_=>exact hb
 | 1,_,0,_|1,_,2,_|1,_,3,_|1,_,5,_|1,_,6,_|1,_,7,_|1,_,8,_=>exact hb
 | 2,_,0,_|2,_,1,_|2,_,3,_|2,_,4,_|2,_,6,_|2,_,7,_|2,_,8,_=>exact hb
theorem Crw.upd (h:Crw w base K a v s) (hi:i<3) (hR:Raw w' K ((rowsOf s.nd a).set i (nodeC n' x')) v) (hg:w.grownBy w' (some K)) (hn:NRep w base n' x')
  (hou:x'.ou=(a.get i).ou∨x'.ou = .slice none 0 0) (hwa:x'.wa=(a.get i).wa∨x'.wa = .slice none 0 0) :
  Crw w' base K (a.set i x') v (s.put i n')∧Keep (Mut K a v) (Mut K (a.set i x') v) w w':=by
 have f:=FrI.grown h.raw.blk hg (by decide)
 have hsl:=slot_set (v:=v) hi hou hwa
 have hblk:∀ j,j<9→∀ b,(slotV a v j).ownBlock=some b→w'.heap[b]?=w.heap[b]?:=fun j hj b hb=>hg.block b (h.slot hj hb).1 (fun e=>h.notK hj hb (by injection e))
 refine ⟨⟨by show Raw w' K (rowsOf (s.nd.set i n') (a.set i x')) v;rw [rows_set hi];exact hR,fun j hj=>?_,h.aw.keep (fun _ _ h=>h.fri f) (hblk 6 (by omega)),h.tl.keep (fun _ _ h=>h.fri f) (hblk 7 (by omega)),h.le.keep (fun _ _ h=>h) (hblk 8 (by omega)),h.kb,Nat.le_trans h.bw hg.size,fun j k hj hk hjk b hb hb'=>h.apart j k hj hk hjk b (hsl j hj b hb) (hsl k hk b hb')⟩,hg.os,hg.tape,hg.output,hg.size,fun k hk hM=>hg.block k hk (fun e=>hM (.inl (by injection e))),fun k hk=>?_,f⟩
 ·show NRep w' base ((s.nd.set i n').get j) ((a.set i x').get j)
  by_cases hji:j=i
  ·subst hji
   rw [T3.get_set _ hi,T3.get_set _ hi]
   exact hn.keep f fun b hb=>hb.elim (fun hb=>hblk (3+j) (by omega) b (hsl _ (by omega) b (by rw [slot_wait hi,T3.get_set _ hi];exact hb))) (fun hb=>hblk j (by omega) b (hsl _ (by omega) b (by rw [slot_out hi,T3.get_set _ hi];exact hb)))
  ·rw [T3.get_ne _ hi hj hji,T3.get_ne _ hi hj hji]
   exact (h.rep j hj).keep f fun b hb=>hb.elim (fun hb=>hblk (3+j) (by omega) b (by rw [slot_wait hj];exact hb)) (fun hb=>hblk j (by omega) b (by rw [slot_out hj];exact hb))
 ·rcases hk with rfl|⟨j,hj,hb⟩
  ·exact .inl (.inl rfl)
  ·exact .inl (.inr ⟨j,hj,hsl j hj k hb⟩)
structure Pushed (w w1:World) (old u:Value):Prop where
 b0:Below 0 w w1
 fr:FrI w w1
 blk:∀ k,k<w.heap.size→old.ownBlock≠some k→w1.heap[k]?=w.heap[k]?
 new:∀ b,u.ownBlock=some b→old.ownBlock=some b∨w.heap.size≤b
theorem Pushed.of {e:TypeId} {row:Array Value} {B size:Nat} {rows:List (List Value)} (ho:Own w B e size old rows) (hg:(w.alloc (.cells row e)).grownBy w1 old.ownBlock) (hb:u.ownBlock=old.ownBlock∨∀ b,u.ownBlock=some b→w.heap.size<b) (ht:immT e=false:=by decide):Pushed w w1 old u where
 b0:=⟨hg.os,hg.tape,hg.output,Nat.le_trans (by simp) hg.size,fun _ hk=>absurd hk (Nat.not_lt_zero _)⟩
 fr:=(FrI.of ((Below.refl _ w).alloc (Nat.le_refl _) _)).trans (FrI.own (ho.alloc _) hg ht)
 blk:=fun k hk hne=>(hg.block k (by simp;omega) (fun e=>hne e.symm)).trans (Below.heap_alloc w _ k hk)
 new:=fun b hu=>hb.elim (fun e=>.inl (e ▸ hu)) (fun h=>.inr (Nat.le_of_lt (h b hu)))
theorem Crw.pushed (h:Crw w base K a v s) {a':T3 NA} {v':T3 Value} {s':Cw} (q:Nat) (hq:q<9) (P:Pushed w w1 (slotV a v q) u) {p:Nat} {r:Value} (raw:Raw (w1.setCell ⟨K,p,none⟩ r) K (rowsOf s'.nd a') v')
  (hu:slotV a' v' q=u) (hsl:∀ j,j<9→j≠q→slotV a' v' j=slotV a v j)
  (rep:(∀ j,j<9→j≠q→∀ b,(slotV a v j).ownBlock=some b→(w1.setCell ⟨K,p,none⟩ r).heap[b]?=w.heap[b]?)→FrI w (w1.setCell ⟨K,p,none⟩ r)→FrI w1 (w1.setCell ⟨K,p,none⟩ r)→(∀ b,u.ownBlock=some b→(w1.setCell ⟨K,p,none⟩ r).heap[b]?=w1.heap[b]?) →
   (∀ i,i<3→NRep (w1.setCell ⟨K,p,none⟩ r) base (s'.nd.get i) (a'.get i))∧MSl (w1.setCell ⟨K,p,none⟩ r) base v'.x s'.away∧TSl (w1.setCell ⟨K,p,none⟩ r) base v'.y s'.told∧LSl (w1.setCell ⟨K,p,none⟩ r) base v'.z s'.led) :
  Crw (w1.setCell ⟨K,p,none⟩ r) base K a' v' s'∧Keep (Mut K a v) (Mut K a' v') w (w1.setCell ⟨K,p,none⟩ r):=by
 have hKl:=h.raw.blk.lt
 have hK1:w1.heap[K]?=w.heap[K]?:=P.blk K hKl (fun e=>h.notK hq e rfl)
 have R1:Blk w1 K 121 _:=hK1.trans h.raw.blk
 have hgs:=grown_setRow_cell w1 K p r
 have fs:FrI w1 (w1.setCell ⟨K,p,none⟩ r):=FrI.grown R1 hgs (by decide)
 have hsz:(w1.setCell ⟨K,p,none⟩ r).heap.size=w1.heap.size:=by simp
 have hne:∀ b,b≠K→(w1.setCell ⟨K,p,none⟩ r).heap[b]?=w1.heap[b]?:=fun b hb=>Below.heap_setCell w1 ⟨K,p,none⟩ r b hb
 have hoth:∀ j,j<9→j≠q→∀ b,(slotV a v j).ownBlock=some b→(w1.setCell ⟨K,p,none⟩ r).heap[b]?=w.heap[b]?:=fun j hj hjq b hb=>(hne b (h.notK hj hb)).trans (P.blk b (h.slot hj hb).1 (fun e=>h.apart j q hj hq hjq b hb e))
 have huK:∀ b,u.ownBlock=some b→b≠K:=fun b hb=>by
  rcases P.new b hb with e|e
  ·exact h.notK hq e
  ·omega
 obtain ⟨r1,r2,r3,r4⟩:=rep hoth (P.fr.trans fs) fs (fun b hb=>hne b (huK b hb))
 refine ⟨⟨raw,r1,r2,r3,r4,h.kb,Nat.le_trans h.bw (Nat.le_trans P.b0.size (by rw [hsz];exact Nat.le_refl _)),fun j k hj hk hjk b hb hb'=>?_⟩,by simp [P.b0.os,World.setCell],by simp [P.b0.tape,World.setCell],by simp [P.b0.output,World.setCell],by rw [hsz];exact P.b0.size,fun k hk hM=>(hne k (fun e=>hM (.inl e))).trans (P.blk k hk (fun e=>hM (.inr ⟨q,hq,e⟩))),fun k hk=>?_,P.fr.trans fs⟩
 ·by_cases hjq:j=q
  ·subst hjq
   have hkq:k≠j:=Ne.symm hjk
   rw [hsl k hk hkq] at hb'
   rw [hu] at hb
   rcases P.new b hb with e|e
   ·exact h.apart j k hj hk hjk b e hb'
   ·have:=(h.slot hk hb').1;omega
  ·rw [hsl j hj hjq] at hb
   by_cases hkq:k=q
   ·subst hkq
    rw [hu] at hb'
    rcases P.new b hb' with e|e
    ·exact h.apart j k hj hk hjk b hb e
    ·have:=(h.slot hj hb).1;omega
   ·rw [hsl k hk hkq] at hb'
    exact h.apart j k hj hk hjk b hb hb'
 ·rcases hk with rfl|⟨j,hj,hb⟩
  ·exact .inl (.inl rfl)
  ·by_cases hjq:j=q
   ·subst hjq
    rw [hu] at hb
    rcases P.new k hb with e|e
    ·exact .inl (.inr ⟨j,hj,e⟩)
    ·exact .inr e
   ·rw [hsl j hj hjq] at hb
    exact .inl (.inr ⟨j,hj,hb⟩)
theorem NRep.outs {n:Nd} {x:NA} {l:List Msg} (h:NRep w base n x) (f:FrI w w') (hk:∀ b,x.wa.ownBlock=some b→w'.heap[b]?=w.heap[b]?) (ho:MSl w' base u l):NRep w' base { n with out:=l } { x with ou:=u } where
 lg:=by obtain ⟨A,k,c,e,h⟩:=h.lg;exact ⟨A,k,c,e,h.fri f⟩
 se:=by obtain ⟨A,k,c,e,h⟩:=h.se;exact ⟨A,k,c,e,h.fri f⟩
 sc:=by obtain ⟨A,k,c,e,h⟩:=h.sc;exact ⟨A,k,c,e,h.fri f⟩
 me:=by obtain ⟨A,k,c,e,h⟩:=h.me;exact ⟨A,k,c,e,h.fri f⟩
 mc:=by obtain ⟨A,k,c,e,h⟩:=h.mc;exact ⟨A,k,c,e,h.fri f⟩
 ta:=by obtain ⟨A,k,c,e,h⟩:=h.ta;exact ⟨A,k,c,e,h.fri f⟩
 wa:=h.wa.keep (fun _ _ h=>h) hk
 ou:=ho
theorem Crw.push_out (h:Crw w base K a v s) (hi:i<3) (P:Pushed w w1 (a.get i).ou u) {l:List Msg} (O:MSl w1 base u l) :
  Crw (w1.setCell ⟨K,i*33+32,none⟩ u) base K (a.set i { a.get i with ou:=u }) v (s.put i { s.nd.get i with out:=l })∧Keep (Mut K a v) (Mut K (a.set i { a.get i with ou:=u }) v) w (w1.setCell ⟨K,i*33+32,none⟩ u):=by
 have hsl:∀ j,j<9→j≠i→slotV (a.set i { a.get i with ou:=u }) v j=slotV a v j:=by
  intro j hj hne
  match i,hi,j,hj with
  | 0,_,0,_|1,_,1,_|2,_,2,_=>exact absurd rfl hne
  | 0,_,1,_|0,_,2,_|0,_,3,_|0,_,4,_|0,_,5,_|0,_,6,_|0,_,7,_|0,_,8,_=>rfl
  | 1,_,0,_|1,_,2,_|1,_,3,_|1,_,4,_|1,_,5,_|1,_,6,_|1,_,7,_|1,_,8,_=>rfl
  | 2,_,0,_|2,_,1,_|2,_,3,_|2,_,4,_|2,_,5,_|2,_,6,_|2,_,7,_|2,_,8,_=>rfl
 have hK1:w1.heap[K]?=w.heap[K]?:=P.blk K h.raw.blk.lt (fun e=>h.notK (j:=i) (by omega) (by rw [slot_out hi];exact e) rfl)
 refine h.pushed i (by omega) (by rw [slot_out hi];exact P) ?_ (by rw [slot_out hi,T3.get_set _ hi]) hsl ?_
 ·show Raw _ K (rowsOf (s.nd.set i _) (a.set i _)) v
  rw [rows_set hi,show nodeC { s.nd.get i with out:=l } { a.get i with ou:=u }=((rowsOf s.nd a).get i).set 32 u by rw [rows_get hi];rfl]
  exact (h.raw.same hK1).set hi (by omega) u
 ·intro ho f fs hu
  refine ⟨fun j hj=>?_,h.aw.keep (fun _ _ h=>h.fri f) (ho 6 (by omega) (by omega)),h.tl.keep (fun _ _ h=>h.fri f) (ho 7 (by omega) (by omega)),h.le.keep (fun _ _ h=>h) (ho 8 (by omega) (by omega))⟩
  show NRep _ base ((s.nd.set i _).get j) ((a.set i _).get j)
  by_cases hji:j=i
  ·subst hji
   rw [T3.get_set _ hi,T3.get_set _ hi]
   exact (h.rep j hi).outs f (fun b hb=>ho (3+j) (by omega) (by omega) b (by rw [slot_wait hi];exact hb)) (O.keep (fun _ _ h=>h.fri fs) hu)
  ·rw [T3.get_ne _ hi hj hji,T3.get_ne _ hi hj hji]
   exact (h.rep j hj).keep f fun b hb=>hb.elim (fun hb=>ho (3+j) (by omega) (by omega) b (by rw [slot_wait hj];exact hb)) (fun hb=>ho j (by omega) hji b (by rw [slot_out hj];exact hb))
theorem Crw.push_top (h:Crw w base K a v s) (q:Nat) (hq:q<3) (P:Pushed w w1 (v.get q) u) {s':Cw} (hnd:s'.nd=s.nd)
  (O:FrI w (w1.setCell ⟨K,99+q,none⟩ u)→(∀ b,u.ownBlock=some b→(w1.setCell ⟨K,99+q,none⟩ u).heap[b]?=w1.heap[b]?)→FrI w1 (w1.setCell ⟨K,99+q,none⟩ u)→(∀ j,j<9→j≠6+q→∀ b,(slotV a v j).ownBlock=some b→(w1.setCell ⟨K,99+q,none⟩ u).heap[b]?=w.heap[b]?) →
   MSl (w1.setCell ⟨K,99+q,none⟩ u) base (v.set q u).x s'.away∧TSl (w1.setCell ⟨K,99+q,none⟩ u) base (v.set q u).y s'.told∧LSl (w1.setCell ⟨K,99+q,none⟩ u) base (v.set q u).z s'.led) :
  Crw (w1.setCell ⟨K,99+q,none⟩ u) base K a (v.set q u) s'∧Keep (Mut K a v) (Mut K a (v.set q u)) w (w1.setCell ⟨K,99+q,none⟩ u):=by
 have hs6:slotV a v (6+q)=v.get q:=by match q,hq with|0,_=>rfl|1,_=>rfl|2,_=>rfl
 have hK1:w1.heap[K]?=w.heap[K]?:=P.blk K h.raw.blk.lt (fun e=>h.notK (j:=6+q) (by omega) (by rw [hs6];exact e) rfl)
 refine h.pushed (6+q) (by omega) (by rw [hs6];exact P) ?_ (by match q,hq with|0,_=>rfl|1,_=>rfl|2,_=>rfl) ?_ ?_
 ·rw [hnd];exact (h.raw.same hK1).setTop q hq u
 ·intro j hj hne
  match q,hq,j,hj with
  | 0,_,6,_|1,_,7,_|2,_,8,_=>exact absurd rfl hne
  | 0,_,0,_|0,_,1,_|0,_,2,_|0,_,3,_|0,_,4,_|0,_,5,_|0,_,7,_|0,_,8,_=>rfl
  | 1,_,0,_|1,_,1,_|1,_,2,_|1,_,3,_|1,_,4,_|1,_,5,_|1,_,6,_|1,_,8,_=>rfl
  | 2,_,0,_|2,_,1,_|2,_,2,_|2,_,3,_|2,_,4,_|2,_,5,_|2,_,6,_|2,_,7,_=>rfl
 ·intro ho f fs hu
  obtain ⟨o1,o2,o3⟩:=O f hu fs ho
  refine ⟨fun j hj=>?_,o1,o2,o3⟩
  rw [hnd]
  exact (h.rep j hj).keep f fun b hb=>hb.elim (fun hb=>ho (3+j) (by omega) (by omega) b (by rw [slot_wait hj];exact hb)) (fun hb=>ho j (by omega) (by omega) b (by rw [slot_out hj];exact hb))
theorem Crw.push_away (h:Crw w base K a v s) (P:Pushed w w1 v.x u) {l:List Msg} (O:MSl w1 base u l) :
  Crw (w1.setCell ⟨K,99,none⟩ u) base K a ⟨u,v.y,v.z⟩ { s with away:=l }∧Keep (Mut K a v) (Mut K a ⟨u,v.y,v.z⟩) w (w1.setCell ⟨K,99,none⟩ u):=
 h.push_top 0 (by omega) P (s':={ s with away:=l }) rfl fun f hu fs ho=>⟨O.keep (fun _ _ h=>h.fri fs) hu,h.tl.keep (fun _ _ h=>h.fri f) (ho 7 (by omega) (by omega)),h.le.keep (fun _ _ h=>h) (ho 8 (by omega) (by omega))⟩
theorem Crw.push_told (h:Crw w base K a v s) (P:Pushed w w1 v.y u) {l:List Tl} (O:TSl w1 base u l) :
  Crw (w1.setCell ⟨K,100,none⟩ u) base K a ⟨v.x,u,v.z⟩ { s with told:=l }∧Keep (Mut K a v) (Mut K a ⟨v.x,u,v.z⟩) w (w1.setCell ⟨K,100,none⟩ u):=
 h.push_top 1 (by omega) P (s':={ s with told:=l }) rfl fun f hu fs ho=>⟨h.aw.keep (fun _ _ h=>h.fri f) (ho 6 (by omega) (by omega)),O.keep (fun _ _ h=>h.fri fs) hu,h.le.keep (fun _ _ h=>h) (ho 8 (by omega) (by omega))⟩
end
end Go.Proofs.YtgdcofbnbiclmaaGreatDoor


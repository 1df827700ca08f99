import Derived.Test.YtgmojjclobkpjaaGreatDoorQTapP
import Derived.Test.YtgmojjclobkpjaaGreatDoorQRest
namespace Go.Proofs.YtgmojjclobkpjaaGreatDoor
set_option linter.all false
set_option maxHeartbeats 32000000
open Go.RowKit
def markCells (t f:Int):List Value:=[.int .i64 1,.int .i64 t,.int .i64 f,.int .i64 0,.int .i64 0,.int .i64 0,.bool false,.int .i64 0,.int .i64 0,.int .i64 0,.string { data:=#[] },.string { data:=#[] },.string { data:=#[] },.int .i64 0,.int .i64 0,.int .i64 0,.int .i64 0,.slice none 0 0,.int .i64 0,.slice none 0 0]
def lineCells (i:Int) (x:Itm):List Value:=[.int .i64 2,.int .i64 0,.int .i64 0,.int .i64 i,.int .i64 x.term,.int .i64 x.time,.bool x.nop,.int .i64 x.client,.int .i64 x.seq,.int .i64 x.cmd.kind,.string x.cmd.key,.string x.cmd.field,.string x.cmd.text,.int .i64 x.cmd.n,.int .i64 0,.int .i64 0,.int .i64 0,.slice none 0 0,.int .i64 0,.slice none 0 0]
def loadCells (i t:Int) (m:Mach) (E C:Value):List Value:=[.int .i64 3,.int .i64 0,.int .i64 0,.int .i64 0,.int .i64 0,.int .i64 0,.bool false,.int .i64 0,.int .i64 0,.int .i64 0,.string { data:=#[] },.string { data:=#[] },.string { data:=#[] },.int .i64 0,.int .i64 i,.int .i64 t,.int .i64 m.now,E,.int .i64 m.next,C]
def RecAt (w:World):RK→List Value→Prop
 | .mark t f,row=>row=markCells t f
 | .line i x,row=>row=lineCells i x
 | .load i t m,row=>∃ A n c B k d,row=loadCells i t m (.slice A n c) (.slice B k d)∧St w A n c m.ents∧Ci w B k d m.clis
theorem RecAt.bl {w w':World} {r:RK} {row:List Value} (h:RecAt w r row) (hb:Below w.heap.size w w'):RecAt w' r row:=by
 cases r with
 | mark t f=>exact h
 | line i x=>exact h
 | load i t m=>
  obtain ⟨A,n,c,B,k,d,h1,h2,h3⟩:=h
  exact ⟨A,n,c,B,k,d,h1,h2.bl hb,h3.bl hb⟩
theorem RecAt.grown {w w':World} {g:Nat} {t:TypeId} {cs:Array Value} {r:RK} {row:List Value} (h:RecAt w r row) (R:Blk w g t cs) (hg:w.grownBy w' (some g)) (h0:98≠t:=by decide) (h4:104≠t:=by decide) (h1:t≠137:=by decide) (h2:t≠9:=by decide) (h3:t≠139:=by decide):RecAt w' r row:=by
 cases r with
 | mark t f=>exact h
 | line i x=>exact h
 | load i t m=>
  obtain ⟨A,n,c,B,k,d,e1,e2,e3⟩:=h
  exact ⟨A,n,c,B,k,d,e1,e2.grown R hg h0 h1 h2 h3,e3.grown R hg h4 h1 h2 h3⟩
theorem RecAt.len {w:World} {r:RK} {row:List Value} (h:RecAt w r row):row.length=20:=by
 cases r with
 | mark t f=>rw [show row=markCells t f from h];rfl
 | line i x=>rw [show row=lineCells i x from h];rfl
 | load i t m=>obtain ⟨A,n,c,B,k,d,rfl,_⟩:=h;rfl
theorem RecAt.one {w:World} {r:RK} {row:List Value} (h:RecAt w r row):∀ u∈row,u.oneCell'=true:=by
 have key:∀ u∈row,u.oneCell'=true:=by
  cases r with
  | mark t f=>rw [show row=markCells t f from h];exact all_one rfl
  | line i x=>rw [show row=lineCells i x from h];exact all_one rfl
  | load i t m=>obtain ⟨A,n,c,B,k,d,rfl,_⟩:=h;exact all_one rfl
 exact key
theorem one_step {w w1:World} {b:Nat} {t:TypeId} {cs cs':Array Value} (i:Nat) (u:Value) (h:Blk w1 b t cs∧w.grownBy w1 (some b)∧w1.heap.size=w.heap.size) (he:cs.setIfInBounds i u=cs') :
  Blk (w1.setCell ⟨b,i,none⟩ u) b t cs'∧w.grownBy (w1.setCell ⟨b,i,none⟩ u) (some b)∧(w1.setCell ⟨b,i,none⟩ u).heap.size=w.heap.size:=
 ⟨h.1.set' he,grown_trans h.2.1 (grown_setRow_cell w1 b i u),by rw [←h.2.2];simp⟩
theorem wpList_store_blk {P:Program} {ops:Array Oper} {rest:List Oper} {op:Oper} {a:Act} {w:World} {Q:Exit→Act→World→Prop} (hgd:op.guard=none) (ty:TypeId) (x y:Operand) (ho:op.op = .store ty x y)
  {b:Nat} {cs cells:Array Value} (hx:a.eval x = .pointer (some ⟨b,0,none⟩)) (hy:a.eval y = .agg cells) (hB:Blk w b ty cs) (hsz:cs.size=cells.size) (hi:(P.info? ty).map (·.size)=some cells.size) (h1:∀ u∈cells.toList,u.oneCell'=true)
  (h:∀ w',Blk w' b ty cells→w.grownBy w' (some b)→w'.heap.size=w.heap.size→wpList P ops Q rest (a.put op.dst undef) w'):wpList P ops Q (op :: rest) a w:=by
 have hrun:=run_storeVar_row (P:=P) w b ty ty cs cells hB hi hsz (Array.all_eq_true_iff_forall_mem.2 fun v hv=>h1 v (by simpa using hv))
 refine wpList_plain hgd fun _ hK=>?_
 unfold Oper.wp execOp
 simp only [ho,hx,hy,Instr.storeAt,Instr.sureAddr,Sem.run_bind,Sem.run_pure,Result.andThen_ok,hrun]
 refine hK _ _ (h _ ?_ (grown_setRow w b cells) ?_)
 ·exact setRow_heap w b cs cells ty (0,0) hB
 ·exact size_setRow w b cells
set_option maxRecDepth 100000 in
theorem noSnap_none (w:World):Calls Tryz.prog 55 #[.agg #[.int .i64 0,.int .i64 0,.int .i64 0,.slice none 0 0,.int .i64 0,.slice none 0 0]] w fun e w'=>e = .returned (.bool true)∧Below w.heap.size w w':=by
 have T0:=(Blk.new w 43 #[.int .i64 0,.int .i64 0,.int .i64 0,.slice none 0 0,.int .i64 0,.slice none 0 0]).alloc (.cells #[.int .i64 0,.slice none 0 0,.int .i64 0,.slice none 0 0] 41)
 have M0:Blk ((w.alloc (.cells #[.int .i64 0,.int .i64 0,.int .i64 0,.slice none 0 0,.int .i64 0,.slice none 0 0] 43)).alloc (.cells #[.int .i64 0,.slice none 0 0,.int .i64 0,.slice none 0 0] 41)) (w.heap.size+1) 41 #[.int .i64 0,.slice none 0 0,.int .i64 0,.slice none 0 0]:=Blk.new' _ _ _ (by simp)
 have q0:Below w.heap.size w ((w.alloc (.cells #[.int .i64 0,.int .i64 0,.int .i64 0,.slice none 0 0,.int .i64 0,.slice none 0 0] 43)).alloc (.cells #[.int .i64 0,.slice none 0 0,.int .i64 0,.slice none 0 0] 41)):=below_by
 go_enter Tryz.func55,Tryz.ntmps55
 go_wp2_with fail
 go_ret
 exact ⟨rfl,q0⟩
set_option maxRecDepth 100000 in
theorem CheckMark_ok (t f:Int) (ht:numberOk t=true) (h0 : -1≤f) (h1:f<3) (w:World) :
  Calls Tryz.prog 28 #[.agg #[.int .i64 1,.int .i64 t,.int .i64 f,.int .i64 0,.int .i64 0,.int .i64 0,.bool false,.int .i64 0,.int .i64 0,.int .i64 0,.string { data:=#[] },.string { data:=#[] },.string { data:=#[] },.int .i64 0,.int .i64 0,.int .i64 0,.int .i64 0,.slice none 0 0,.int .i64 0,.slice none 0 0]] w fun e w'=>e = .returned (.int .i64 0)∧Below w.heap.size w w':=by
 have T0:=(Blk.new w 45 #[.int .i64 1,.int .i64 t,.int .i64 f,.int .i64 0,.int .i64 0,.int .i64 0,.bool false,.int .i64 0,.int .i64 0,.int .i64 0,.string { data:=#[] },.string { data:=#[] },.string { data:=#[] },.int .i64 0,.int .i64 0,.int .i64 0,.int .i64 0,.slice none 0 0,.int .i64 0,.slice none 0 0]).alloc (.cells #[.int .i64 0,.int .i64 0,.bool false,.int .i64 0,.int .i64 0,.int .i64 0,.string { data:=#[] },.string { data:=#[] },.string { data:=#[] },.int .i64 0] 35)
 have I0:=Blk.new (w.alloc (.cells #[.int .i64 1,.int .i64 t,.int .i64 f,.int .i64 0,.int .i64 0,.int .i64 0,.bool false,.int .i64 0,.int .i64 0,.int .i64 0,.string { data:=#[] },.string { data:=#[] },.string { data:=#[] },.int .i64 0,.int .i64 0,.int .i64 0,.int .i64 0,.slice none 0 0,.int .i64 0,.slice none 0 0] 45)) 35 #[.int .i64 0,.int .i64 0,.bool false,.int .i64 0,.int .i64 0,.int .i64 0,.string { data:=#[] },.string { data:=#[] },.string { data:=#[] },.int .i64 0]
 have q0:Below w.heap.size w ((w.alloc (.cells #[.int .i64 1,.int .i64 t,.int .i64 f,.int .i64 0,.int .i64 0,.int .i64 0,.bool false,.int .i64 0,.int .i64 0,.int .i64 0,.string { data:=#[] },.string { data:=#[] },.string { data:=#[] },.int .i64 0,.int .i64 0,.int .i64 0,.int .i64 0,.slice none 0 0,.int .i64 0,.slice none 0 0] 45)).alloc (.cells #[.int .i64 0,.int .i64 0,.bool false,.int .i64 0,.int .i64 0,.int .i64 0,.string { data:=#[] },.string { data:=#[] },.string { data:=#[] },.int .i64 0] 35)):=below_by
 go_enter Tryz.func28,Tryz.ntmps28
 (try clear cT0 fT0);have cT0:=T0.cell;have fT0:=T0.frozen;(try clear cI0 fI0);have cI0:=I0.cell;have fI0:=I0.frozen
 go_wp2_with fail
 refine (noSnap_none _).mono ?_
 rintro e w1 ⟨rfl,hb1⟩
 replace T0:=T0.bl hb1;replace I0:=I0.bl hb1
 replace q0:=bstep q0 hb1
 clear hb1 cT0 fT0 cI0 fI0
 (try clear cT0 fT0);have cT0:=T0.cell;have fT0:=T0.frozen;(try clear cI0 fI0);have cI0:=I0.cell;have fI0:=I0.frozen
 go_wp2_with fail
 refine (tnumber_any t _).mono ?_
 rintro e w' ⟨rfl,rfl⟩
 rw [ht]
 go_wp2_with fail
 go_ret
 exact ⟨rfl,q0⟩
set_option maxRecDepth 100000 in
theorem CheckMark_bad (t f:Int) (ht:numberOk t=false) (w:World) :
  Calls Tryz.prog 28 #[.agg #[.int .i64 1,.int .i64 t,.int .i64 f,.int .i64 0,.int .i64 0,.int .i64 0,.bool false,.int .i64 0,.int .i64 0,.int .i64 0,.string { data:=#[] },.string { data:=#[] },.string { data:=#[] },.int .i64 0,.int .i64 0,.int .i64 0,.int .i64 0,.slice none 0 0,.int .i64 0,.slice none 0 0]] w fun e w'=>e = .returned (.int .i64 2)∧Below w.heap.size w w':=by
 have T0:=(Blk.new w 45 #[.int .i64 1,.int .i64 t,.int .i64 f,.int .i64 0,.int .i64 0,.int .i64 0,.bool false,.int .i64 0,.int .i64 0,.int .i64 0,.string { data:=#[] },.string { data:=#[] },.string { data:=#[] },.int .i64 0,.int .i64 0,.int .i64 0,.int .i64 0,.slice none 0 0,.int .i64 0,.slice none 0 0]).alloc (.cells #[.int .i64 0,.int .i64 0,.bool false,.int .i64 0,.int .i64 0,.int .i64 0,.string { data:=#[] },.string { data:=#[] },.string { data:=#[] },.int .i64 0] 35)
 have I0:=Blk.new (w.alloc (.cells #[.int .i64 1,.int .i64 t,.int .i64 f,.int .i64 0,.int .i64 0,.int .i64 0,.bool false,.int .i64 0,.int .i64 0,.int .i64 0,.string { data:=#[] },.string { data:=#[] },.string { data:=#[] },.int .i64 0,.int .i64 0,.int .i64 0,.int .i64 0,.slice none 0 0,.int .i64 0,.slice none 0 0] 45)) 35 #[.int .i64 0,.int .i64 0,.bool false,.int .i64 0,.int .i64 0,.int .i64 0,.string { data:=#[] },.string { data:=#[] },.string { data:=#[] },.int .i64 0]
 have q0:Below w.heap.size w ((w.alloc (.cells #[.int .i64 1,.int .i64 t,.int .i64 f,.int .i64 0,.int .i64 0,.int .i64 0,.bool false,.int .i64 0,.int .i64 0,.int .i64 0,.string { data:=#[] },.string { data:=#[] },.string { data:=#[] },.int .i64 0,.int .i64 0,.int .i64 0,.int .i64 0,.slice none 0 0,.int .i64 0,.slice none 0 0] 45)).alloc (.cells #[.int .i64 0,.int .i64 0,.bool false,.int .i64 0,.int .i64 0,.int .i64 0,.string { data:=#[] },.string { data:=#[] },.string { data:=#[] },.int .i64 0] 35)):=below_by
 go_enter Tryz.func28,Tryz.ntmps28
 (try clear cT0 fT0);have cT0:=T0.cell;have fT0:=T0.frozen;(try clear cI0 fI0);have cI0:=I0.cell;have fI0:=I0.frozen
 go_wp2_with fail
 refine (noSnap_none _).mono ?_
 rintro e w1 ⟨rfl,hb1⟩
 replace T0:=T0.bl hb1;replace I0:=I0.bl hb1
 replace q0:=bstep q0 hb1
 clear hb1 cT0 fT0 cI0 fI0
 (try clear cT0 fT0);have cT0:=T0.cell;have fT0:=T0.frozen;(try clear cI0 fI0);have cI0:=I0.cell;have fI0:=I0.frozen
 go_wp2_with fail
 refine (tnumber_any t _).mono ?_
 rintro e w' ⟨rfl,rfl⟩
 rw [ht]
 go_wp2_with fail
 go_ret
 exact ⟨rfl,q0⟩
set_option maxRecDepth 100000 in
theorem CheckLine_ok (i:Int) (x:Itm) (ht:numberOk i=true) (hx:checkItem x=0) (w:World) :
  Calls Tryz.prog 28 #[.agg #[.int .i64 2,.int .i64 0,.int .i64 0,.int .i64 i,.int .i64 x.term,.int .i64 x.time,.bool x.nop,.int .i64 x.client,.int .i64 x.seq,.int .i64 x.cmd.kind,.string x.cmd.key,.string x.cmd.field,.string x.cmd.text,.int .i64 x.cmd.n,.int .i64 0,.int .i64 0,.int .i64 0,.slice none 0 0,.int .i64 0,.slice none 0 0]] w fun e w'=>e = .returned (.int .i64 0)∧Below w.heap.size w w':=by
 have HC:=hide (fun w=>CheckItem_any x w)
 have T0:=(Blk.new w 45 #[.int .i64 2,.int .i64 0,.int .i64 0,.int .i64 i,.int .i64 x.term,.int .i64 x.time,.bool x.nop,.int .i64 x.client,.int .i64 x.seq,.int .i64 x.cmd.kind,.string x.cmd.key,.string x.cmd.field,.string x.cmd.text,.int .i64 x.cmd.n,.int .i64 0,.int .i64 0,.int .i64 0,.slice none 0 0,.int .i64 0,.slice none 0 0]).alloc (.cells #[.int .i64 0,.int .i64 0,.bool false,.int .i64 0,.int .i64 0,.int .i64 0,.string { data:=#[] },.string { data:=#[] },.string { data:=#[] },.int .i64 0] 35)
 have I0:=Blk.new (w.alloc (.cells #[.int .i64 2,.int .i64 0,.int .i64 0,.int .i64 i,.int .i64 x.term,.int .i64 x.time,.bool x.nop,.int .i64 x.client,.int .i64 x.seq,.int .i64 x.cmd.kind,.string x.cmd.key,.string x.cmd.field,.string x.cmd.text,.int .i64 x.cmd.n,.int .i64 0,.int .i64 0,.int .i64 0,.slice none 0 0,.int .i64 0,.slice none 0 0] 45)) 35 #[.int .i64 0,.int .i64 0,.bool false,.int .i64 0,.int .i64 0,.int .i64 0,.string { data:=#[] },.string { data:=#[] },.string { data:=#[] },.int .i64 0]
 have q0:Below w.heap.size w ((w.alloc (.cells #[.int .i64 2,.int .i64 0,.int .i64 0,.int .i64 i,.int .i64 x.term,.int .i64 x.time,.bool x.nop,.int .i64 x.client,.int .i64 x.seq,.int .i64 x.cmd.kind,.string x.cmd.key,.string x.cmd.field,.string x.cmd.text,.int .i64 x.cmd.n,.int .i64 0,.int .i64 0,.int .i64 0,.slice none 0 0,.int .i64 0,.slice none 0 0] 45)).alloc (.cells #[.int .i64 0,.int .i64 0,.bool false,.int .i64 0,.int .i64 0,.int .i64 0,.string { data:=#[] },.string { data:=#[] },.string { data:=#[] },.int .i64 0] 35)):=below_by
 go_enter Tryz.func28,Tryz.ntmps28
 (try clear cT0 fT0);have cT0:=T0.cell;have fT0:=T0.frozen;(try clear cI0 fI0);have cI0:=I0.cell;have fI0:=I0.frozen
 go_wp2_with fail
 refine (noSnap_none _).mono ?_
 rintro e w1 ⟨rfl,hb1⟩
 replace T0:=T0.bl hb1;replace I0:=I0.bl hb1
 replace q0:=bstep q0 hb1
 clear hb1 cT0 fT0 cI0 fI0
 (try clear cT0 fT0);have cT0:=T0.cell;have fT0:=T0.frozen;(try clear cI0 fI0);have cI0:=I0.cell;have fI0:=I0.frozen
 go_wp2_with fail
 refine (tnumber_any i _).mono ?_
 rintro e w' ⟨rfl,rfl⟩
 rw [ht]
 go_wp2_with fail
 refine (HC.out _).mono ?_
 rintro e w2 ⟨rfl,hb2⟩
 rw [hx]
 have q2:=bstep q0 hb2
 go_wp2_with fail
 go_ret
 exact ⟨rfl,q2⟩
theorem rec_size:(Tryz.prog.info? 45).map (·.size)=some 20:=by kernel_rfl
theorem twenty {r:List Value} (h:r.length=20):∃ v0 v1 v2 v3 v4 v5 v6 v7 v8 v9 v10 v11 v12 v13 v14 v15 v16 v17 v18 v19,r=[v0,v1,v2,v3,v4,v5,v6,v7,v8,v9,v10,v11,v12,v13,v14,v15,v16,v17,v18,v19]:=by
 match r,h with
 | [v0,v1,v2,v3,v4,v5,v6,v7,v8,v9,v10,v11,v12,v13,v14,v15,v16,v17,v18,v19],_=>exact ⟨v0,v1,v2,v3,v4,v5,v6,v7,v8,v9,v10,v11,v12,v13,v14,v15,v16,v17,v18,v19,rfl⟩
theorem i64_nil:I64 0:=⟨by decide,by decide⟩
structure NoteD where
 kind:Int
 a:Int
 b:Int
 deeds:List DeedD
def NoteD.ok (x:NoteD):Prop:=I64 x.kind∧I64 x.a∧I64 x.b∧∀ d∈x.deeds,d.ok
def firstD (x:NoteD):DeedD:=match x.deeds with
 | []=>⟨x.a,0,0,⟨0,0,0,0,{ data:=#[] }⟩⟩
 | d :: _=>d
def recOf (x:NoteD):RK:=
 if picked x.kind 3=0 then .mark (1+picked x.a 99) (picked x.b 4 - 1)
 else if picked x.kind 3=1 then .line (1+picked x.a 99) (itemOf (firstD x) x.b x.a)
 else .load (1+picked x.a 40) (1+picked x.b 5) (machOf (x.deeds.take 8))
theorem recOf_ok (x:NoteD):(recOf x).Ok:=by
 have a0:=picked_lo x.a 99 (by omega);have a1:=picked_hi x.a 99 (by omega)
 have b0:=picked_lo x.b 4 (by omega);have b1:=picked_hi x.b 4 (by omega)
 have c0:=picked_lo x.a 40 (by omega);have c1:=picked_hi x.a 40 (by omega)
 have d0:=picked_lo x.b 5 (by omega);have d1:=picked_hi x.b 5 (by omega)
 unfold recOf
 split
 ·exact ⟨number_iff.2 ⟨by omega,by omega⟩,by omega,by omega⟩
 ·split
  ·exact ⟨number_iff.2 ⟨by omega,by omega⟩,check_itemOf _ _ _⟩
  ·exact ⟨number_iff.2 ⟨by omega,by omega⟩,number_iff.2 ⟨by omega,by omega⟩,(machOf_inv _).ok⟩
def RecPost (r:RK) (w:World) (e:Ending) (w':World):Prop:=∃ row,e = .returned (.agg row.toArray)∧RecAt w' r row∧Below w.heap.size w w'
set_option maxRecDepth 100000 in
theorem record_any (x:NoteD) (hx:x.ok) (A:Option Addr) (n c:Nat) (w:World) (hS:Sl w 8 A n c (deedRows x.deeds)) (hN:Noth w) :
  Calls Tryz.prog 25 #[.agg #[.int .i64 x.kind,.int .i64 x.a,.int .i64 x.b,.slice A n c]] w (RecPost (recOf x) w):=by
 obtain ⟨hk,ha,hb,hd⟩:=hx
 have hn:=deed_len hS
 have hfd:firstD x=(match x.deeds with | []=>⟨x.a,0,0,⟨0,0,0,0,{ data:=#[] }⟩⟩|d :: _=>d):=rfl
 have p0:=picked_lo x.kind 3 (by omega);have p1:=picked_hi x.kind 3 (by omega)
 have hpk:=fun w=>picked_any x.kind 3 w hk.1 hk.2 (by omega) (by omega)
 have hpa:=fun w=>picked_any x.a 99 w ha.1 ha.2 (by omega) (by omega)
 have hpb:=fun w=>picked_any x.b 4 w hb.1 hb.2 (by omega) (by omega)
 have a0:=picked_lo x.a 99 (by omega);have a1:=picked_hi x.a 99 (by omega)
 have b0:=picked_lo x.b 4 (by omega);have b1:=picked_hi x.b 4 (by omega)
 have hsn:=fun w' (q:Below w.heap.size w w')=>snap_any A n c x.deeds x.a x.b w' (hS.below q) hd (hN.bl q) ha hb
 have hit:=fun d (h:DeedD.ok d) w=>Item_any d h x.b x.a w hb ha
 obtain ⟨R,hR⟩:∃ R,R=recOf x:=⟨_,rfl⟩
 rw [←hR]
 unfold recOf at hR
 rw [hfd] at hR
 clear hfd
 obtain ⟨kd,a,b,l⟩:=x
 simp only at *
 generalize picked kd 3=p at *
 generalize picked a 99=pa at *
 generalize picked b 4=pb at *
 have wa:IntKind.i64.wrap (1+pa)=1+pa:=IntWalk.i64_in _ (by omega)
 have wb:IntKind.i64.wrap (pb - 1)=pb - 1:=IntWalk.i64_in _ (by omega)
 have HR:=hide hR;have HPK:=hide hpk;have HPA:=hide hpa;have HPB:=hide hpb;have HSN:=hide hsn;have HIT:=hide hit
 clear hR hpk hpa hpb hsn hit hk
 have N0:=(Blk.new w 78 #[.int .i64 kd,.int .i64 a,.int .i64 b,.slice A n c]).alloc (.cells #[.int .i64 0,.int .i64 0,.int .i64 0,.int .i64 0,.int .i64 0,.int .i64 0,.bool false,.int .i64 0,.int .i64 0,.int .i64 0,.string { data:=#[] },.string { data:=#[] },.string { data:=#[] },.int .i64 0,.int .i64 0,.int .i64 0,.int .i64 0,.slice none 0 0,.int .i64 0,.slice none 0 0] 45)
 have R0:Blk ((w.alloc (.cells #[.int .i64 kd,.int .i64 a,.int .i64 b,.slice A n c] 78)).alloc (.cells #[.int .i64 0,.int .i64 0,.int .i64 0,.int .i64 0,.int .i64 0,.int .i64 0,.bool false,.int .i64 0,.int .i64 0,.int .i64 0,.string { data:=#[] },.string { data:=#[] },.string { data:=#[] },.int .i64 0,.int .i64 0,.int .i64 0,.int .i64 0,.slice none 0 0,.int .i64 0,.slice none 0 0] 45)) (w.heap.size+1) 45 #[.int .i64 0,.int .i64 0,.int .i64 0,.int .i64 0,.int .i64 0,.int .i64 0,.bool false,.int .i64 0,.int .i64 0,.int .i64 0,.string { data:=#[] },.string { data:=#[] },.string { data:=#[] },.int .i64 0,.int .i64 0,.int .i64 0,.int .i64 0,.slice none 0 0,.int .i64 0,.slice none 0 0]:=Blk.new' _ _ _ (by simp)
 have q0:Below w.heap.size w ((w.alloc (.cells #[.int .i64 kd,.int .i64 a,.int .i64 b,.slice A n c] 78)).alloc (.cells #[.int .i64 0,.int .i64 0,.int .i64 0,.int .i64 0,.int .i64 0,.int .i64 0,.bool false,.int .i64 0,.int .i64 0,.int .i64 0,.string { data:=#[] },.string { data:=#[] },.string { data:=#[] },.int .i64 0,.int .i64 0,.int .i64 0,.int .i64 0,.slice none 0 0,.int .i64 0,.slice none 0 0] 45)):=below_by
 go_enter Tryz.func25,Tryz.ntmps25
 go_wp2_with fail
 refine (HPK.out _).mono ?_
 rintro e w' ⟨rfl,rfl⟩
 obtain ⟨w0,hw0⟩:∃ w0,w0=(w.alloc (.cells #[.int .i64 kd,.int .i64 a,.int .i64 b,.slice A n c] 78)).alloc (.cells #[.int .i64 0,.int .i64 0,.int .i64 0,.int .i64 0,.int .i64 0,.int .i64 0,.bool false,.int .i64 0,.int .i64 0,.int .i64 0,.string { data:=#[] },.string { data:=#[] },.string { data:=#[] },.int .i64 0,.int .i64 0,.int .i64 0,.int .i64 0,.slice none 0 0,.int .i64 0,.slice none 0 0] 45):=⟨_,rfl⟩
 rw [←hw0] at N0 R0 q0 ⊢
 clear hw0
 have S0:=hS.below q0
 have hrl:=R0.lt
 have hnl:=N0.lt
 rcases (by omega:p=0∨p=1∨p=2) with rfl|rfl|rfl
 ·have HR:=hide (show R = .mark (1+pa) (pb - 1) from by rw [HR.out];rfl)
  go_wp2_with fail
  refine wp_region_x (l:=[]) (S:=fun w'=>w'.cell? ⟨w.heap.size,1,none⟩=some (.int .i64 a)∧w'.cell? ⟨w.heap.size,2,none⟩=some (.int .i64 b)) (by kernel_rfl) ⟨N0.drew.cell 1,N0.drew.cell 2⟩ (fun hS=>?_)
  replace R0:=R0.drew
  have q1:=q0.drew
  have N1:=N0.drew
  obtain ⟨wd,hwd⟩:∃ wd,wd=w0.drew:=⟨_,rfl⟩
  rw [←hwd] at hS R0 q1 N1 ⊢
  have hsd:wd.heap.size=w0.heap.size:=by rw [hwd];rfl
  rw [←hsd] at hrl hnl
  clear hwd hsd q0 N0
  refine wpAnyX_tq 0 ?_
  refine wpAnyX_tq 1 ?_
  refine wpAnyX_tq 4 ?_
  refine wpAnyX_tq 5 ?_
  refine wpAnyX_oq 2 fun K hK=>?_
  go_wp2_with fail
  refine (HPA.out _).mono ?_
  rintro e w' ⟨rfl,rfl⟩
  go_wp2_with fail
  refine hK.out _ _ (Or.inr hS) (fun hS=>?_)
  replace hS:=hS.resolve_left (by decide)
  clear hK K
  refine wpAnyX_tq 3 ?_
  refine wpAnyX_oq 6 fun K hK=>?_
  go_wp2_with fail
  refine (HPB.out _).mono ?_
  rintro e w' ⟨rfl,rfl⟩
  go_wp2_with fail
  refine hK.out _ _ (Or.inr hS) (fun hS=>?_)
  replace hS:=hS.resolve_left (by decide)
  clear hK K
  refine wpAnyX_tq 7 ?_
  refine wpAnyX_tq 8 ?_
  refine wpAnyX_oq 9 fun K hK=>?_
  refine wpList_store_blk rfl 45 _ _ rfl (cells:=#[.int .i64 1,.int .i64 (1+pa),.int .i64 (pb - 1),.int .i64 0,.int .i64 0,.int .i64 0,.bool false,.int .i64 0,.int .i64 0,.int .i64 0,.string { data:=#[] },.string { data:=#[] },.string { data:=#[] },.int .i64 0,.int .i64 0,.int .i64 0,.int .i64 0,.slice none 0 0,.int .i64 0,.slice none 0 0]) rfl rfl R0 rfl rec_size (all_one rfl) ?_
  intro w9 Z9 gr9 sz9
  have HP:=hide (show RecPost R w (.returned (.agg #[.int .i64 1,.int .i64 (1+pa),.int .i64 (pb - 1),.int .i64 0,.int .i64 0,.int .i64 0,.bool false,.int .i64 0,.int .i64 0,.int .i64 0,.string { data:=#[] },.string { data:=#[] },.string { data:=#[] },.int .i64 0,.int .i64 0,.int .i64 0,.int .i64 0,.slice none 0 0,.int .i64 0,.slice none 0 0])) _ from ⟨_,rfl,by rw [HR.out];rfl,below_grow q1 gr9 q1.size (by omega)⟩)
  refine hK.out _ _ (Or.inr ⟨(grown_blk N1 gr9 (by omega)).cell 1,(grown_blk N1 gr9 (by omega)).cell 2⟩) (fun _=>?_)
  clear hK K
  refine wpAnyX_done (by kernel_rfl) ?_ _
  clear gr9 sz9 R0
  go_wp2_with fail
  have hlv:(loadVar 45 ⟨w.heap.size+1,0,none⟩).run Tryz.prog w9 = .ok (.agg #[.int .i64 1,.int .i64 (1+pa),.int .i64 (pb - 1),.int .i64 0,.int .i64 0,.int .i64 0,.bool false,.int .i64 0,.int .i64 0,.int .i64 0,.string { data:=#[] },.string { data:=#[] },.string { data:=#[] },.int .i64 0,.int .i64 0,.int .i64 0,.int .i64 0,.slice none 0 0,.int .i64 0,.slice none 0 0]) w9:=run_loadVar_row w9 _ _ _ _ (0,0) _ Z9 Tryz.underlying45 rfl rec_size
  refine bodyPost_ret (v:=.agg #[.int .i64 1,.int .i64 (1+pa),.int .i64 (pb - 1),.int .i64 0,.int .i64 0,.int .i64 0,.bool false,.int .i64 0,.int .i64 0,.int .i64 0,.string { data:=#[] },.string { data:=#[] },.string { data:=#[] },.int .i64 0,.int .i64 0,.int .i64 0,.int .i64 0,.slice none 0 0,.int .i64 0,.slice none 0 0]) ?_ rfl HP.out
  simp only [results,Tryz.results25]
  simp [asAddr,Act.put,hlv]
 ·rcases l with _|⟨d,l⟩
  ·have hn0:n=0:=hn.symm
   subst hn0
   have HRL:Hid (R = .line (1+pa) (itemOf ⟨a,0,0,⟨0,0,0,0,{ data:=#[] }⟩⟩ b a)):=by rw [HR.out];rfl
   have hX:=HIT.out ⟨a,0,0,⟨0,0,0,0,{ data:=#[] }⟩⟩ ⟨ha,i64_nil,i64_nil,i64_nil,i64_nil,i64_nil,i64_nil,Nat.zero_le _⟩
   generalize itemOf ⟨a,0,0,⟨0,0,0,0,{ data:=#[] }⟩⟩ b a=x at hX HRL
   simp only [Itm.cells,DeedD.cells] at hX
   have HX:=hide hX
   clear hX
   have D0:Blk (w0.alloc (.cells #[.int .i64 a,.int .i64 0,.int .i64 0,.int .i64 0,.int .i64 0,.int .i64 0,.int .i64 0,.string { data:=#[] }] 62)) w0.heap.size 62 #[.int .i64 a,.int .i64 0,.int .i64 0,.int .i64 0,.int .i64 0,.int .i64 0,.int .i64 0,.string { data:=#[] }]:=Blk.new _ _ _
   have N1:=N0.alloc (.cells #[.int .i64 a,.int .i64 0,.int .i64 0,.int .i64 0,.int .i64 0,.int .i64 0,.int .i64 0,.string { data:=#[] }] 62)
   have R1:=R0.alloc (.cells #[.int .i64 a,.int .i64 0,.int .i64 0,.int .i64 0,.int .i64 0,.int .i64 0,.int .i64 0,.string { data:=#[] }] 62)
   have q1:Below w.heap.size w (w0.alloc (.cells #[.int .i64 a,.int .i64 0,.int .i64 0,.int .i64 0,.int .i64 0,.int .i64 0,.int .i64 0,.string { data:=#[] }] 62)):=below_by
   (try clear cN0 fN0);have cN0:=N0.cell;have fN0:=N0.frozen
   go_wp2_with fail
   refine wp_region_x (l:=[]) (S:=fun w'=>w'.cell? ⟨w.heap.size,1,none⟩=some (.int .i64 a)∧w'.cell? ⟨w.heap.size,2,none⟩=some (.int .i64 b)∧w'.cell? ⟨w0.heap.size,0,none⟩=some (.int .i64 a)∧w'.cell? ⟨w0.heap.size,1,none⟩=some (.int .i64 0)∧w'.cell? ⟨w0.heap.size,2,none⟩=some (.int .i64 0)∧w'.cell? ⟨w0.heap.size,3,none⟩=some (.int .i64 0)∧w'.cell? ⟨w0.heap.size,4,none⟩=some (.int .i64 0)∧w'.cell? ⟨w0.heap.size,5,none⟩=some (.int .i64 0)∧w'.cell? ⟨w0.heap.size,6,none⟩=some (.int .i64 0)∧w'.cell? ⟨w0.heap.size,7,none⟩=some (.string { data:=#[] })) (by kernel_rfl) ⟨N1.drew.cell 1,N1.drew.cell 2,D0.drew.cell 0,D0.drew.cell 1,D0.drew.cell 2,D0.drew.cell 3,D0.drew.cell 4,D0.drew.cell 5,D0.drew.cell 6,D0.drew.cell 7⟩ (fun hS=>?_)
   replace N1:=N1.drew
   replace R1:=R1.drew
   replace D0:=D0.drew
   replace q1:=q1.drew
   obtain ⟨wd,hwd⟩:∃ wd,wd=(w0.alloc (.cells #[.int .i64 a,.int .i64 0,.int .i64 0,.int .i64 0,.int .i64 0,.int .i64 0,.int .i64 0,.string { data:=#[] }] 62)).drew:=⟨_,rfl⟩
   rw [←hwd] at hS R1 q1 N1 D0 ⊢
   clear hwd q0 N0 R0 cN0 fN0
   refine wpAnyX_tq 0 ?_
   refine wpAnyX_tq 1 ?_
   refine wpAnyX_tq 4 ?_
   refine wpAnyX_tq 5 ?_
   refine wpAnyX_tq 6 ?_
   refine wpAnyX_tq 7 ?_
   refine wpAnyX_tq 8 ?_
   refine wpAnyX_oq 2 fun K hK=>?_
   go_wp2_with fail
   refine (HPA.out _).mono ?_
   rintro e w' ⟨rfl,rfl⟩
   go_wp2_with fail
   refine hK.out _ _ (Or.inr hS) (fun hS=>?_)
   replace hS:=hS.resolve_left (by decide)
   clear hK K
   refine wpAnyX_tq 3 ?_
   refine wpAnyX_oq 9 fun K hK=>?_
   go_wp2_with fail
   refine (HX.out _).mono ?_
   rintro e w2 ⟨rfl,hb2⟩
   go_wp2_with fail
   replace N1:=N1.below' hb2
   replace D0:=D0.below' hb2
   have R0:=R1.below' hb2
   replace q1:=bstep q1 hb2
   have hd0:=D0.lt
   refine hK.out _ _ (Or.inr ⟨N1.cell 1,N1.cell 2,D0.cell 0,D0.cell 1,D0.cell 2,D0.cell 3,D0.cell 4,D0.cell 5,D0.cell 6,D0.cell 7⟩) (fun hS=>?_)
   replace hS:=hS.resolve_left (by decide)
   clear hK K hb2 R1
   refine wpAnyX_tq 10 ?_
   refine wpAnyX_oq 11 fun K hK=>?_
   refine wpList_store_blk rfl 45 _ _ rfl (cells:=#[.int .i64 2,.int .i64 0,.int .i64 0,.int .i64 (1+pa),.int .i64 x.term,.int .i64 x.time,.bool x.nop,.int .i64 x.client,.int .i64 x.seq,.int .i64 x.cmd.kind,.string x.cmd.key,.string x.cmd.field,.string x.cmd.text,.int .i64 x.cmd.n,.int .i64 0,.int .i64 0,.int .i64 0,.slice none 0 0,.int .i64 0,.slice none 0 0]) rfl rfl R0 rfl rec_size (all_one rfl) ?_
   intro w9 Z9 gr9 sz9
   have HP:=hide (show RecPost R w (.returned (.agg #[.int .i64 2,.int .i64 0,.int .i64 0,.int .i64 (1+pa),.int .i64 x.term,.int .i64 x.time,.bool x.nop,.int .i64 x.client,.int .i64 x.seq,.int .i64 x.cmd.kind,.string x.cmd.key,.string x.cmd.field,.string x.cmd.text,.int .i64 x.cmd.n,.int .i64 0,.int .i64 0,.int .i64 0,.slice none 0 0,.int .i64 0,.slice none 0 0])) _ from ⟨_,rfl,by rw [HRL.out];rfl,below_grow q1 gr9 q1.size (by omega)⟩)
   refine hK.out _ _ (Or.inr ⟨(grown_blk N1 gr9 (by omega)).cell 1,(grown_blk N1 gr9 (by omega)).cell 2,(grown_blk D0 gr9 (by omega)).cell 0,(grown_blk D0 gr9 (by omega)).cell 1,(grown_blk D0 gr9 (by omega)).cell 2,(grown_blk D0 gr9 (by omega)).cell 3,(grown_blk D0 gr9 (by omega)).cell 4,(grown_blk D0 gr9 (by omega)).cell 5,(grown_blk D0 gr9 (by omega)).cell 6,(grown_blk D0 gr9 (by omega)).cell 7⟩) (fun _=>?_)
   clear hK K
   refine wpAnyX_done (by kernel_rfl) ?_ _
   clear gr9 sz9 R0
   go_wp2_with fail
   have hlv:(loadVar 45 ⟨w.heap.size+1,0,none⟩).run Tryz.prog w9 = .ok (.agg #[.int .i64 2,.int .i64 0,.int .i64 0,.int .i64 (1+pa),.int .i64 x.term,.int .i64 x.time,.bool x.nop,.int .i64 x.client,.int .i64 x.seq,.int .i64 x.cmd.kind,.string x.cmd.key,.string x.cmd.field,.string x.cmd.text,.int .i64 x.cmd.n,.int .i64 0,.int .i64 0,.int .i64 0,.slice none 0 0,.int .i64 0,.slice none 0 0]) w9:=run_loadVar_row w9 _ _ _ _ (0,0) _ Z9 Tryz.underlying45 rfl rec_size
   refine bodyPost_ret (v:=.agg #[.int .i64 2,.int .i64 0,.int .i64 0,.int .i64 (1+pa),.int .i64 x.term,.int .i64 x.time,.bool x.nop,.int .i64 x.client,.int .i64 x.seq,.int .i64 x.cmd.kind,.string x.cmd.key,.string x.cmd.field,.string x.cmd.text,.int .i64 x.cmd.n,.int .i64 0,.int .i64 0,.int .i64 0,.slice none 0 0,.int .i64 0,.slice none 0 0]) ?_ rfl HP.out
   simp only [results,Tryz.results25]
   simp [asAddr,Act.put,hlv]
  ·obtain ⟨b_,off,rfl,hbb,⟨i0,i1,i2,i3,i4,i5,i6,i7⟩⟩:=S0.deed (k:=0) (by simp)
   simp only [List.getElem_cons_zero,Nat.zero_mul,Nat.add_zero] at i0 i1 i2 i3 i4 i5 i6 i7
   have hn0:0<n:=by rw [←hn];simp
   have hn1:(0:Int)<(n:Int):=by omega
   have HRL:Hid (R = .line (1+pa) (itemOf d b a)):=by rw [HR.out];rfl
   have hX:=HIT.out d (hd _ (List.mem_cons_self ..))
   generalize itemOf d b a=x at hX HRL
   simp only [Itm.cells,DeedD.cells] at hX
   have HX:=hide hX
   clear hX
   have D0:Blk (w0.alloc (.cells #[.int .i64 d.client,.int .i64 d.off,.int .i64 d.wait,.int .i64 d.raw.kind,.int .i64 d.raw.key,.int .i64 d.raw.field,.int .i64 d.raw.n,.string d.raw.text] 62)) w0.heap.size 62 #[.int .i64 d.client,.int .i64 d.off,.int .i64 d.wait,.int .i64 d.raw.kind,.int .i64 d.raw.key,.int .i64 d.raw.field,.int .i64 d.raw.n,.string d.raw.text]:=Blk.new _ _ _
   have N1:=N0.alloc (.cells #[.int .i64 d.client,.int .i64 d.off,.int .i64 d.wait,.int .i64 d.raw.kind,.int .i64 d.raw.key,.int .i64 d.raw.field,.int .i64 d.raw.n,.string d.raw.text] 62)
   have R1:=R0.alloc (.cells #[.int .i64 d.client,.int .i64 d.off,.int .i64 d.wait,.int .i64 d.raw.kind,.int .i64 d.raw.key,.int .i64 d.raw.field,.int .i64 d.raw.n,.string d.raw.text] 62)
   have q1:Below w.heap.size w (w0.alloc (.cells #[.int .i64 d.client,.int .i64 d.off,.int .i64 d.wait,.int .i64 d.raw.kind,.int .i64 d.raw.key,.int .i64 d.raw.field,.int .i64 d.raw.n,.string d.raw.text] 62)):=below_by
   (try clear cN0 fN0);have cN0:=N0.cell;have fN0:=N0.frozen
   go_wp2_with fail
   refine wp_region_x (l:=[]) (S:=fun w'=>w'.cell? ⟨w.heap.size,1,none⟩=some (.int .i64 a)∧w'.cell? ⟨w.heap.size,2,none⟩=some (.int .i64 b)∧w'.cell? ⟨w0.heap.size,0,none⟩=some (.int .i64 d.client)∧w'.cell? ⟨w0.heap.size,1,none⟩=some (.int .i64 d.off)∧w'.cell? ⟨w0.heap.size,2,none⟩=some (.int .i64 d.wait)∧w'.cell? ⟨w0.heap.size,3,none⟩=some (.int .i64 d.raw.kind)∧w'.cell? ⟨w0.heap.size,4,none⟩=some (.int .i64 d.raw.key)∧w'.cell? ⟨w0.heap.size,5,none⟩=some (.int .i64 d.raw.field)∧w'.cell? ⟨w0.heap.size,6,none⟩=some (.int .i64 d.raw.n)∧w'.cell? ⟨w0.heap.size,7,none⟩=some (.string d.raw.text)) (by kernel_rfl) ⟨N1.drew.cell 1,N1.drew.cell 2,D0.drew.cell 0,D0.drew.cell 1,D0.drew.cell 2,D0.drew.cell 3,D0.drew.cell 4,D0.drew.cell 5,D0.drew.cell 6,D0.drew.cell 7⟩ (fun hS=>?_)
   replace N1:=N1.drew
   replace R1:=R1.drew
   replace D0:=D0.drew
   replace q1:=q1.drew
   obtain ⟨wd,hwd⟩:∃ wd,wd=(w0.alloc (.cells #[.int .i64 d.client,.int .i64 d.off,.int .i64 d.wait,.int .i64 d.raw.kind,.int .i64 d.raw.key,.int .i64 d.raw.field,.int .i64 d.raw.n,.string d.raw.text] 62)).drew:=⟨_,rfl⟩
   rw [←hwd] at hS R1 q1 N1 D0 ⊢
   clear hwd q0 N0 R0 cN0 fN0
   refine wpAnyX_tq 0 ?_
   refine wpAnyX_tq 1 ?_
   refine wpAnyX_tq 4 ?_
   refine wpAnyX_tq 5 ?_
   refine wpAnyX_tq 6 ?_
   refine wpAnyX_tq 7 ?_
   refine wpAnyX_tq 8 ?_
   refine wpAnyX_oq 2 fun K hK=>?_
   go_wp2_with fail
   refine (HPA.out _).mono ?_
   rintro e w' ⟨rfl,rfl⟩
   go_wp2_with fail
   refine hK.out _ _ (Or.inr hS) (fun hS=>?_)
   replace hS:=hS.resolve_left (by decide)
   clear hK K
   refine wpAnyX_tq 3 ?_
   refine wpAnyX_oq 9 fun K hK=>?_
   go_wp2_with fail
   refine (HX.out _).mono ?_
   rintro e w2 ⟨rfl,hb2⟩
   go_wp2_with fail
   replace N1:=N1.below' hb2
   replace D0:=D0.below' hb2
   have R0:=R1.below' hb2
   replace q1:=bstep q1 hb2
   have hd0:=D0.lt
   refine hK.out _ _ (Or.inr ⟨N1.cell 1,N1.cell 2,D0.cell 0,D0.cell 1,D0.cell 2,D0.cell 3,D0.cell 4,D0.cell 5,D0.cell 6,D0.cell 7⟩) (fun hS=>?_)
   replace hS:=hS.resolve_left (by decide)
   clear hK K hb2 R1
   refine wpAnyX_tq 10 ?_
   refine wpAnyX_oq 11 fun K hK=>?_
   refine wpList_store_blk rfl 45 _ _ rfl (cells:=#[.int .i64 2,.int .i64 0,.int .i64 0,.int .i64 (1+pa),.int .i64 x.term,.int .i64 x.time,.bool x.nop,.int .i64 x.client,.int .i64 x.seq,.int .i64 x.cmd.kind,.string x.cmd.key,.string x.cmd.field,.string x.cmd.text,.int .i64 x.cmd.n,.int .i64 0,.int .i64 0,.int .i64 0,.slice none 0 0,.int .i64 0,.slice none 0 0]) rfl rfl R0 rfl rec_size (all_one rfl) ?_
   intro w9 Z9 gr9 sz9
   have HP:=hide (show RecPost R w (.returned (.agg #[.int .i64 2,.int .i64 0,.int .i64 0,.int .i64 (1+pa),.int .i64 x.term,.int .i64 x.time,.bool x.nop,.int .i64 x.client,.int .i64 x.seq,.int .i64 x.cmd.kind,.string x.cmd.key,.string x.cmd.field,.string x.cmd.text,.int .i64 x.cmd.n,.int .i64 0,.int .i64 0,.int .i64 0,.slice none 0 0,.int .i64 0,.slice none 0 0])) _ from ⟨_,rfl,by rw [HRL.out];rfl,below_grow q1 gr9 q1.size (by omega)⟩)
   refine hK.out _ _ (Or.inr ⟨(grown_blk N1 gr9 (by omega)).cell 1,(grown_blk N1 gr9 (by omega)).cell 2,(grown_blk D0 gr9 (by omega)).cell 0,(grown_blk D0 gr9 (by omega)).cell 1,(grown_blk D0 gr9 (by omega)).cell 2,(grown_blk D0 gr9 (by omega)).cell 3,(grown_blk D0 gr9 (by omega)).cell 4,(grown_blk D0 gr9 (by omega)).cell 5,(grown_blk D0 gr9 (by omega)).cell 6,(grown_blk D0 gr9 (by omega)).cell 7⟩) (fun _=>?_)
   clear hK K
   refine wpAnyX_done (by kernel_rfl) ?_ _
   clear gr9 sz9 R0
   go_wp2_with fail
   have hlv:(loadVar 45 ⟨w.heap.size+1,0,none⟩).run Tryz.prog w9 = .ok (.agg #[.int .i64 2,.int .i64 0,.int .i64 0,.int .i64 (1+pa),.int .i64 x.term,.int .i64 x.time,.bool x.nop,.int .i64 x.client,.int .i64 x.seq,.int .i64 x.cmd.kind,.string x.cmd.key,.string x.cmd.field,.string x.cmd.text,.int .i64 x.cmd.n,.int .i64 0,.int .i64 0,.int .i64 0,.slice none 0 0,.int .i64 0,.slice none 0 0]) w9:=run_loadVar_row w9 _ _ _ _ (0,0) _ Z9 Tryz.underlying45 rfl rec_size
   refine bodyPost_ret (v:=.agg #[.int .i64 2,.int .i64 0,.int .i64 0,.int .i64 (1+pa),.int .i64 x.term,.int .i64 x.time,.bool x.nop,.int .i64 x.client,.int .i64 x.seq,.int .i64 x.cmd.kind,.string x.cmd.key,.string x.cmd.field,.string x.cmd.text,.int .i64 x.cmd.n,.int .i64 0,.int .i64 0,.int .i64 0,.slice none 0 0,.int .i64 0,.slice none 0 0]) ?_ rfl HP.out
   simp only [results,Tryz.results25]
   simp [asAddr,Act.put,hlv]
 ·have HR:=hide (show R = .load (1+picked a 40) (1+picked b 5) (machOf (l.take 8)) from by rw [HR.out];rfl)
  (try clear cN0 fN0);have cN0:=N0.cell;have fN0:=N0.frozen
  go_wp2_with fail
  refine (HSN.out _ q0).mono ?_
  rintro e w1 ⟨A1,n1,c1,B1,k1,d1,rfl,S1,C1,hb1⟩
  generalize machOf (l.take 8)=m at *
  generalize picked a 40=pi at *
  generalize picked b 5=pt at *
  replace R0:=R0.below' hb1
  have q1:=bstep q0 hb1
  clear hb1 cN0 fN0 N0 q0
  have hrl:=R0.lt
  go_wp2_with (refine wpList_store_blk rfl 45 _ _ rfl (cells:=#[.int .i64 3,.int .i64 0,.int .i64 0,.int .i64 0,.int .i64 0,.int .i64 0,.bool false,.int .i64 0,.int .i64 0,.int .i64 0,.string { data:=#[] },.string { data:=#[] },.string { data:=#[] },.int .i64 0,.int .i64 (1+pi),.int .i64 (1+pt),.int .i64 m.now,.slice A1 n1 c1,.int .i64 m.next,.slice B1 k1 d1]) rfl rfl R0 rfl rec_size (all_one rfl) ?_;intro w9 Z9 gr9 sz9)
  have HP:=hide (show RecPost R w (.returned (.agg #[.int .i64 3,.int .i64 0,.int .i64 0,.int .i64 0,.int .i64 0,.int .i64 0,.bool false,.int .i64 0,.int .i64 0,.int .i64 0,.string { data:=#[] },.string { data:=#[] },.string { data:=#[] },.int .i64 0,.int .i64 (1+pi),.int .i64 (1+pt),.int .i64 m.now,.slice A1 n1 c1,.int .i64 m.next,.slice B1 k1 d1])) _ from ⟨_,rfl,by rw [HR.out];exact ⟨A1,n1,c1,B1,k1,d1,rfl,S1.grown R0 gr9,C1.grown R0 gr9⟩,below_grow q1 gr9 q1.size (by omega)⟩)
  clear gr9 sz9 R0
  go_wp2_with fail
  have hlv:(loadVar 45 ⟨w.heap.size+1,0,none⟩).run Tryz.prog w9 = .ok (.agg #[.int .i64 3,.int .i64 0,.int .i64 0,.int .i64 0,.int .i64 0,.int .i64 0,.bool false,.int .i64 0,.int .i64 0,.int .i64 0,.string { data:=#[] },.string { data:=#[] },.string { data:=#[] },.int .i64 0,.int .i64 (1+pi),.int .i64 (1+pt),.int .i64 m.now,.slice A1 n1 c1,.int .i64 m.next,.slice B1 k1 d1]) w9:=run_loadVar_row w9 _ _ _ _ (0,0) _ Z9 Tryz.underlying45 rfl rec_size
  refine bodyPost_ret (v:=.agg #[.int .i64 3,.int .i64 0,.int .i64 0,.int .i64 0,.int .i64 0,.int .i64 0,.bool false,.int .i64 0,.int .i64 0,.int .i64 0,.string { data:=#[] },.string { data:=#[] },.string { data:=#[] },.int .i64 0,.int .i64 (1+pi),.int .i64 (1+pt),.int .i64 m.now,.slice A1 n1 c1,.int .i64 m.next,.slice B1 k1 d1]) ?_ rfl HP.out
  simp only [results,Tryz.results25]
  simp [asAddr,Act.put,hlv]
end Go.Proofs.YtgmojjclobkpjaaGreatDoor


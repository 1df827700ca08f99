import Derived.Test.YtgdcofbnbiclmaaGreatDoorQCrwM
namespace Go.Proofs.YtgdcofbnbiclmaaGreatDoor
set_option linter.all false
set_option maxHeartbeats 32000000
open Go.RowKit
def CopyPost (m:Mach) (w:World) (e:Ending) (w':World):Prop:=
 ∃ (A:Option Addr) (k c:Nat) (B:Option Addr) (j d:Nat),e = .returned (.agg #[.int .i64 m.now,.slice A k c,.int .i64 m.next,.slice B j d])∧St w' A k c m.ents∧Ci w' B j d m.clis∧Below w.heap.size w w'
set_option maxRecDepth 100000 in
theorem copy_nil (m:Mach) (he:m.ents=[]) (hc:m.clis=[]) (A B:Option Addr) (k c j d:Nat) (w:World) (hE:St w A k c m.ents) (hC:Ci w B j d m.clis) :
  Calls Tryz.prog 54 #[.agg #[.int .i64 m.now,.slice A k c,.int .i64 m.next,.slice B j d]] w (CopyPost m w):=by
 obtain rfl:k=0:=by have:=hE.sl.len;rw [he] at this;exact this.symm
 obtain rfl:j=0:=by have:=hC.sl.len;rw [hc] at this;exact this.symm
 have HE:=hide he
 have HC:=hide hc
 clear hE hC he hc
 have P0:Blk (((w.alloc (.cells #[.int .i64 m.now,.slice A 0 c,.int .i64 m.next,.slice B 0 d] 49)).alloc (.cells #[.int .i64 0,.slice none 0 0,.int .i64 0,.slice none 0 0] 49)).alloc (.cells #[.int .i64 m.now,.slice none 0 0,.int .i64 m.next,.slice none 0 0] 49)) w.heap.size 49 #[.int .i64 m.now,.slice A 0 c,.int .i64 m.next,.slice B 0 d]:=((Blk.new _ _ _).alloc _).alloc _
 have R0:Blk (((w.alloc (.cells #[.int .i64 m.now,.slice A 0 c,.int .i64 m.next,.slice B 0 d] 49)).alloc (.cells #[.int .i64 0,.slice none 0 0,.int .i64 0,.slice none 0 0] 49)).alloc (.cells #[.int .i64 m.now,.slice none 0 0,.int .i64 m.next,.slice none 0 0] 49)) (w.heap.size+1) 49 #[.int .i64 0,.slice none 0 0,.int .i64 0,.slice none 0 0]:=(Blk.new' _ _ _ (by simp)).alloc _
 have U0:Blk (((w.alloc (.cells #[.int .i64 m.now,.slice A 0 c,.int .i64 m.next,.slice B 0 d] 49)).alloc (.cells #[.int .i64 0,.slice none 0 0,.int .i64 0,.slice none 0 0] 49)).alloc (.cells #[.int .i64 m.now,.slice none 0 0,.int .i64 m.next,.slice none 0 0] 49)) (w.heap.size+2) 49 #[.int .i64 m.now,.slice none 0 0,.int .i64 m.next,.slice none 0 0]:=Blk.new' _ _ _ (by simp)
 have q0:Below w.heap.size w (((w.alloc (.cells #[.int .i64 m.now,.slice A 0 c,.int .i64 m.next,.slice B 0 d] 49)).alloc (.cells #[.int .i64 0,.slice none 0 0,.int .i64 0,.slice none 0 0] 49)).alloc (.cells #[.int .i64 m.now,.slice none 0 0,.int .i64 m.next,.slice none 0 0] 49)):=below_by
 go_enter Tryz.func54,Tryz.ntmps54
 go_wp2_with fail
 go_loopw [20] (fun s20 wr=>s20 = .int .i64 0∧Blk wr w.heap.size 49 #[.int .i64 m.now,.slice A 0 c,.int .i64 m.next,.slice B 0 d]∧Blk wr (w.heap.size+1) 49 #[.int .i64 0,.slice none 0 0,.int .i64 0,.slice none 0 0]∧Blk wr (w.heap.size+2) 49 #[.int .i64 m.now,.slice none 0 0,.int .i64 m.next,.slice none 0 0]∧Below w.heap.size w wr) (fun _ _=>0)
 case atStart=>exact ⟨rfl,P0,R0,U0,q0⟩
 case round=>
  obtain ⟨rfl,P1,R1,U1,q1⟩:=hrel
  clear P0 R0 U0 q0
  obtain ⟨wa,hwa⟩:∃ wa,wa=wr:=⟨_,rfl⟩
  rw [←hwa] at P1 R1 U1 q1 ⊢
  clear hwa
  (try clear cP1 fP1);have cP1:=P1.cell;have fP1:=P1.frozen
  go_wp2_with fail
  go_loopw [55] (fun s55 wr=>s55 = .int .i64 0∧Blk wr (w.heap.size+1) 49 #[.int .i64 0,.slice none 0 0,.int .i64 0,.slice none 0 0]∧Blk wr (w.heap.size+2) 49 #[.int .i64 m.now,.slice none 0 0,.int .i64 m.next,.slice none 0 0]∧Below w.heap.size w wr) (fun _ _=>0)
  case atStart=>exact ⟨rfl,R1,U1,q1⟩
  case round=>
   obtain ⟨rfl,R2,U2,q2⟩:=hrel
   clear R1 U1 q1 P1 cP1 fP1
   have hr1:=R2.lt
   have hu1:=U2.lt
   have hqs:=q2.size
   obtain ⟨wb,hwb⟩:∃ wb,wb=wr:=⟨_,rfl⟩
   rw [←hwb] at R2 U2 q2 hr1 hu1 hqs ⊢
   clear hwb
   (try clear cU2 fU2);have cU2:=U2.cell;have fU2:=U2.frozen;(try clear cR2 fR2);have cR2:=R2.cell;have fR2:=R2.frozen
   go_wp2_with fail
   have R3:=(((R2.set' (i:=0) (u:=.int .i64 m.now) rfl).set' (i:=1) (u:=.slice none 0 0) rfl).set' (i:=2) (u:=.int .i64 m.next) rfl).set' (i:=3) (u:=.slice none 0 0) rfl
   have gr:=grown_trans (grown_trans (grown_trans (grown_setRow_cell wb (w.heap.size+1) 0 (.int .i64 m.now)) (grown_setRow_cell _ (w.heap.size+1) 1 (.slice none 0 0))) (grown_setRow_cell _ (w.heap.size+1) 2 (.int .i64 m.next))) (grown_setRow_cell _ (w.heap.size+1) 3 (.slice none 0 0))
   have cR3:=R3.cell
   refine bodyPost_ret (v:=.agg #[.int .i64 m.now,.slice none 0 0,.int .i64 m.next,.slice none 0 0]) ?_ rfl ⟨none,0,0,none,0,0,rfl,by rw [HE.out];exact St.nil _,by rw [HC.out];exact Ci.nil _,below_grow q2 gr hqs (by omega)⟩
   simp [results,Tryz.results54,go_sem,cR3]
def SortPost (base:Nat) (A:Option Addr) (n c:Nat) (rows:List (List Value)) (w:World) (e:Ending) (w':World):Prop:=
 e = .returned (.tuple #[])∧∃ rows',Own w' base 95 2 (.slice A n c) rows'∧rows'.Perm rows∧w.grownBy w' (Value.slice A n c).ownBlock
set_option maxRecDepth 100000 in
theorem ins_nil (A:Option Addr) (c:Nat) (cmp:Value) (w:World) :
  Calls Tryz.prog 110 #[.slice A 0 c,.int .i64 0,.int .i64 0,cmp] w fun e w'=>e = .returned (.tuple #[])∧Below w.heap.size w w':=by
 go_enter Tryz.func110,Tryz.ntmps110
 go_wp2_with fail
 go_loopw [8] (fun s8 wr=>s8 = .int .i64 1∧Below w.heap.size w wr) (fun _ _=>0)
 case atStart=>exact ⟨rfl,Below.refl _ _⟩
 case round=>
  obtain ⟨rfl,q⟩:=hrel
  go_wp2_with fail
  go_end0
  exact ⟨rfl,q⟩
set_option maxRecDepth 100000 in
theorem stable_nil (A:Option Addr) (c:Nat) (cmp:Value) (w:World) :
  Calls Tryz.prog 72 #[.slice A 0 c,.int .i64 0,cmp] w fun e w'=>e = .returned (.tuple #[])∧Below w.heap.size w w':=by
 go_enter Tryz.func72,Tryz.ntmps72
 go_wp2_with fail
 go_loopw [7,8] (fun s7 s8 wr=>s7 = .int .i64 0∧s8 = .int .i64 20∧Below w.heap.size w wr) (fun _ _ _=>0)
 case atStart=>exact ⟨rfl,rfl,Below.refl _ _⟩
 case round=>
  obtain ⟨rfl,rfl,q⟩:=hrel
  go_wp2_with fail
  refine (ins_nil _ _ _ _).mono ?_
  rintro e w1 ⟨rfl,b1⟩
  go_wp2_with fail
  go_loopw [6] (fun s6 wq=>s6 = .int .i64 20∧Below w.heap.size w wq) (fun _ _=>0)
  case atStart=>exact ⟨rfl,bstep q b1⟩
  case round=>
   obtain ⟨rfl,q2⟩:=hrel
   go_wp2_with fail
   go_end0
   exact ⟨rfl,q2⟩
set_option maxRecDepth 100000 in
theorem sort_nil {base:Nat} (A:Option Addr) (c:Nat) (cmp:Value) (w:World) (h:Own w base 95 2 (.slice A 0 c) []) :
  Calls Tryz.prog 51 #[.slice A 0 c,cmp] w (SortPost base A 0 c [] w):=by
 go_enter Tryz.func51,Tryz.ntmps51
 go_wp2_with fail
 refine (stable_nil _ _ _ _).mono ?_
 rintro e w1 ⟨rfl,b1⟩
 go_wp2_with fail
 go_end0
 exact ⟨rfl,[],h.below b1,List.Perm.refl _,⟨b1.os,b1.tape,b1.output,b1.size,fun k hk _=>b1.block k hk⟩⟩
end Go.Proofs.YtgdcofbnbiclmaaGreatDoor


import Derived.Test.YtgmojjclobkpjaaGreatDoorQTapL
import Derived.Test.YtgmojjclobkpjaaGreatDoorQLaidN
namespace Go.Proofs.YtgmojjclobkpjaaGreatDoor
set_option linter.all false
set_option maxHeartbeats 32000000
open Go.RowKit
section
variable {P:Program} {ops:Array Oper} {Q:Exit→Act→World→Prop} {md:Region.Mode}
theorem wpOp_of_list {i:Nat} {oi:Oper} {R:Act→World→Prop} {a:Act} {w:World} (hi:ops[i]?=some oi) (hg:oi.guard=none) (h1:wpList P ops (Exit.then R Q) [oi] a w):wpOp P ops Q i R a w:=by
 have hw:Region.wanted oi (yielded ops a.tmps)=true:=by simp [Region.wanted,hg]
 unfold wpList at h1
 rw [if_pos hw] at h1
 unfold wpOp
 simp only [hi]
 rw [if_pos hw]
 rcases h1 with h1|⟨h1,h2⟩
 ·refine .inl ?_
  unfold Oper.wp at h1 ⊢
  generalize (execOp a.eval oi).run P w=r at *
  cases r with
  | ok n w'=>
   cases n <;> simp only [Oper.upon] at h1 ⊢ <;> first|exact h1|(refine Calls.mono h1 fun e w'' he=>?_;cases e <;> exact he)
  | halt x w'=>cases x <;> simp only [Oper.upon] at h1 ⊢ <;> exact h1
 ·exact .inr ⟨h1,by simpa [LetsOut,Exit.then] using h2⟩
theorem wpAnyX_pair {l:List Nat} (i j:Nat) {oi oj:Oper} {v u:Value} {fuel:Nat} {listed L1 L2 L':Array Bool} {a a1 a2 a':Act} {w:World}
  (h:wpAnyX P md ops Q (fun _=>True) (fun j=>l.contains j) fuel L' a' w)
  (hcall:∀ b:Act,b=a∨b=a1→∀ K:Act→World→Prop,Shut (K (b.put oj.dst u) w)→wpList P ops (Exit.then K Q) [oj] b w)
  (hy:YieldsIf P ops (fun w'=>w'=w) oi v a) (hy2:YieldsIf P ops (fun w'=>w'=w) oi v a2)
  (hi:ops[i]?=some oi:=by rfl) (hj:ops[j]?=some oj:=by rfl) (hg:oj.guard=none:=by rfl)
  (hL1:listed.setIfInBounds i true=L1:=by (try simp only [List.setIfInBounds_toArray,List.set_cons_zero,List.set_cons_succ]);(try exact rfl))
  (hL2:listed.setIfInBounds j true=L2:=by (try simp only [List.setIfInBounds_toArray,List.set_cons_zero,List.set_cons_succ]);(try exact rfl))
  (hL3:L1.setIfInBounds j true=L':=by (try simp only [List.setIfInBounds_toArray,List.set_cons_zero,List.set_cons_succ]);(try exact rfl))
  (hL4:L2.setIfInBounds i true=L':=by (try simp only [List.setIfInBounds_toArray,List.set_cons_zero,List.set_cons_succ]);(try exact rfl))
  (ha1:a.put oi.dst v=a1:=by (try simp only [Act.put,List.setIfInBounds_toArray,List.set_cons_zero,List.set_cons_succ,List.getElem_toArray,List.getElem_cons_zero,List.getElem_cons_succ]);(try exact rfl))
  (ha2:a.put oj.dst u=a2:=by (try simp only [Act.put,List.setIfInBounds_toArray,List.set_cons_zero,List.set_cons_succ,List.getElem_toArray,List.getElem_cons_zero,List.getElem_cons_succ]);(try exact rfl))
  (ha3:a1.put oj.dst u=a':=by (try simp only [Act.put,List.setIfInBounds_toArray,List.set_cons_zero,List.set_cons_succ,List.getElem_toArray,List.getElem_cons_zero,List.getElem_cons_succ]);(try exact rfl))
  (ha4:a2.put oi.dst v=a':=by (try simp only [Act.put,List.setIfInBounds_toArray,List.set_cons_zero,List.set_cons_succ,List.getElem_toArray,List.getElem_cons_zero,List.getElem_cons_succ]);(try exact rfl))
  (hr:(Region.ready md ops listed).all (fun k=>k == i || k == j)=true:=by kernel_rfl) (hn:(Region.ready md ops listed).isEmpty=false:=by kernel_rfl)
  (hr1:Region.ready md ops L1=[j]:=by kernel_rfl) (hr2:Region.ready md ops L2=[i]:=by kernel_rfl) :
  wpAnyX P md ops Q (fun _=>True) (fun j=>l.contains j) (fuel+2) listed a w:=by
 refine ⟨fun h0=>(by rw [h0] at hn;cases hn),fun k hk=>?_⟩
 have hk':=List.all_eq_true.1 hr k hk
 simp only [Bool.or_eq_true,beq_iff_eq] at hk'
 rcases hk' with rfl|rfl
 ·refine hy.wpOp hi rfl ⟨.inr trivial,?_⟩
  rw [hL1,ha1]
  refine ⟨fun h0=>(by rw [hr1] at h0;cases h0),fun k' hk'=>?_⟩
  rw [hr1] at hk'
  obtain rfl:k'=j:=by simpa using hk'
  exact wpOp_of_list hj hg (hcall _ (.inr rfl) _ ⟨.inr trivial,by rw [hL3,ha3];exact h⟩)
 ·refine wpOp_of_list hj hg (hcall _ (.inl rfl) _ ⟨.inr trivial,?_⟩)
  rw [hL2,ha2]
  refine ⟨fun h0=>(by rw [hr2] at h0;cases h0),fun k' hk'=>?_⟩
  rw [hr2] at hk'
  obtain rfl:k'=i:=by simpa using hk'
  exact hy2.wpOp hi rfl ⟨.inr trivial,by rw [hL4,ha4];exact h⟩
end
theorem topen_odd (w:World):Calls Tryz.prog 37 #[.agg #[.slice none 0 0,.int .i64 1]] w fun e w'=>e = .returned (.tuple #[.agg #[.slice none 0 0,.int .i64 0],.bool false])∧Below w.heap.size w w':=by
 have T0:=(Blk.new w 27 #[.slice none 0 0,.int .i64 1]).alloc (.cells #[.slice none 0 0,.int .i64 0] 27)
 have Z0:Blk ((w.alloc (.cells #[.slice none 0 0,.int .i64 1] 27)).alloc (.cells #[.slice none 0 0,.int .i64 0] 27)) (w.heap.size+1) 27 #[.slice none 0 0,.int .i64 0]:=Blk.new' _ _ _ (by simp)
 have q0:Below w.heap.size w ((w.alloc (.cells #[.slice none 0 0,.int .i64 1] 27)).alloc (.cells #[.slice none 0 0,.int .i64 0] 27)):=below_by
 go_enter Tryz.func37,Tryz.ntmps37
 (try clear cT0 fT0);have cT0:=T0.cell;have fT0:=T0.frozen
 go_wp2_with (refine wpList_store_blk rfl 27 _ _ rfl (cells:=#[.slice none 0 0,.int .i64 0]) rfl rfl Z0 rfl tape_size (all_one rfl) ?_;intro w6 Z6 gr6 sz6)
 have q6:=below_grow q0 gr6 q0.size (by omega)
 clear gr6 sz6
 (try clear cZ6 fZ6);have cZ6:=Z6.cell;have fZ6:=Z6.frozen
 go_wp2_with fail
 refine bodyPost_ret (v:=.tuple #[.agg #[.slice none 0 0,.int .i64 0],.bool false]) ?_ rfl ⟨rfl,q6⟩
 simp [results,Tryz.results37,go_sem, *]
theorem Recover_odd (w:World):Calls Tryz.prog 23 #[.agg #[.slice none 0 0,.int .i64 1]] w fun e w'=>e = .returned (.tuple #[.slice none 0 0,.agg #[.slice none 0 0,.int .i64 0],.int .i64 13])∧Below w.heap.size w w':=by
 have T0:=(Blk.new w 27 #[.slice none 0 0,.int .i64 1]).alloc (.cells #[.slice none 0 0,.int .i64 0] 27)
 have Z0:Blk ((w.alloc (.cells #[.slice none 0 0,.int .i64 1] 27)).alloc (.cells #[.slice none 0 0,.int .i64 0] 27)) (w.heap.size+1) 27 #[.slice none 0 0,.int .i64 0]:=Blk.new' _ _ _ (by simp)
 have q0:Below w.heap.size w ((w.alloc (.cells #[.slice none 0 0,.int .i64 1] 27)).alloc (.cells #[.slice none 0 0,.int .i64 0] 27)):=below_by
 go_enter Tryz.func23,Tryz.ntmps23
 (try clear cT0 fT0);have cT0:=T0.cell;have fT0:=T0.frozen
 go_wp2_with fail
 refine (topen_odd _).mono ?_
 rintro e w1 ⟨rfl,b1⟩
 replace Z0:=Z0.below' b1
 have q1:=bstep q0 b1
 clear cT0 fT0 T0 b1 q0
 have Z1:=Z0.alloc (.cells #[.slice none 0 0,.int .i64 0] 27)
 have q2:Below w.heap.size w (w1.alloc (.cells #[.slice none 0 0,.int .i64 0] 27)):=below_by
 clear q1
 go_wp2_with (refine wpList_store_blk rfl 27 _ _ rfl (cells:=#[.slice none 0 0,.int .i64 0]) rfl rfl Z1 rfl tape_size (all_one rfl) ?_;intro w6 Z6 gr6 sz6)
 have q6:=below_grow q2 gr6 q2.size (by omega)
 clear gr6 sz6
 (try clear cZ6 fZ6);have cZ6:=Z6.cell;have fZ6:=Z6.frozen
 go_wp2_with fail
 refine bodyPost_ret (v:=.tuple #[.slice none 0 0,.agg #[.slice none 0 0,.int .i64 0],.int .i64 13]) ?_ rfl ⟨rfl,q6⟩
 simp [results,Tryz.results23,go_sem, *]
theorem Sync_odd (w:World):Calls Tryz.prog 15 #[.agg #[.slice none 0 0,.int .i64 1]] w fun e w'=>e = .returned (.tuple #[.agg #[.slice none 0 0,.int .i64 0],.int .i64 13])∧Below w.heap.size w w':=by
 have T0:=(Blk.new w 27 #[.slice none 0 0,.int .i64 1]).alloc (.cells #[.slice none 0 0,.int .i64 0] 27)
 have Z0:Blk ((w.alloc (.cells #[.slice none 0 0,.int .i64 1] 27)).alloc (.cells #[.slice none 0 0,.int .i64 0] 27)) (w.heap.size+1) 27 #[.slice none 0 0,.int .i64 0]:=Blk.new' _ _ _ (by simp)
 have q0:Below w.heap.size w ((w.alloc (.cells #[.slice none 0 0,.int .i64 1] 27)).alloc (.cells #[.slice none 0 0,.int .i64 0] 27)):=below_by
 go_enter Tryz.func15,Tryz.ntmps15
 (try clear cT0 fT0);have cT0:=T0.cell;have fT0:=T0.frozen
 go_wp2_with fail
 refine (topen_odd _).mono ?_
 rintro e w1 ⟨rfl,b1⟩
 replace Z0:=Z0.below' b1
 have q1:=bstep q0 b1
 clear cT0 fT0 T0 b1 q0
 have Z1:=Z0.alloc (.cells #[.slice none 0 0,.int .i64 0] 27)
 have q2:Below w.heap.size w (w1.alloc (.cells #[.slice none 0 0,.int .i64 0] 27)):=below_by
 clear q1
 go_wp2_with (refine wpList_store_blk rfl 27 _ _ rfl (cells:=#[.slice none 0 0,.int .i64 0]) rfl rfl Z1 rfl tape_size (all_one rfl) ?_;intro w6 Z6 gr6 sz6)
 have q6:=below_grow q2 gr6 q2.size (by omega)
 clear gr6 sz6
 (try clear cZ6 fZ6);have cZ6:=Z6.cell;have fZ6:=Z6.frozen
 go_wp2_with fail
 refine bodyPost_ret (v:=.tuple #[.agg #[.slice none 0 0,.int .i64 0],.int .i64 13]) ?_ rfl ⟨rfl,q6⟩
 simp [results,Tryz.results15,go_sem, *]
def recsOf (ys:List NoteD):List RK:=(ys.take 16).map recOf
theorem recsOf_ok (ys:List NoteD):∀ r∈recsOf ys,r.Ok:=by
 intro r hr
 obtain ⟨y,_,rfl⟩:=List.mem_map.1 hr
 exact recOf_ok y
theorem recsOf_len (ys:List NoteD):(recsOf ys).length≤16:=by simp [recsOf];omega
theorem recsOf_tape (ys:List NoteD):(tapeB (recsOf ys)).length≤204960:=by
 have:=tapeB_len (recsOf_ok ys)
 have:=recsOf_len ys
 omega
theorem TpSl.take {w:World} {A:Option Addr} {n c:Nat} {l:List Value} (h:TpSl w A n c l) (k m:Nat) (hk:k≤n) (hm:k≤m) (hc:m≤c):TpSl w A k m (l.take k):=
 ⟨by have:=h.sl.take k hk m hm hc;rwa [byteRows_take] at this,h.u8.take k,h.tp⟩
theorem cut_read {rs:List RK} {p:Nat} (hok:∀ r∈rs,r.Ok) (hp:p≤(tapeB rs).length):∃ D,recA ((tapeB rs).take p)=(D,(tapeB D).length)∧((tapeB rs).take p).take (tapeB D).length=tapeB D∧recA (tapeB D)=(D,(tapeB D).length)∧(tapeB D).length≤p∧(∃ rest,rs=D ++ rest)∧(D.length=rs.length ↔ p=(tapeB rs).length)∧(∀ r∈D,r.Ok)∧D=rs.take (wholes rs p):=by
 refine ⟨rs.take (wholes rs p),recA_take hok hp,?_,recA_all fun r hr=>hok r (List.mem_of_mem_take hr),wholes_in rs p,⟨rs.drop (wholes rs p),(List.take_append_drop _ _).symm⟩,?_,fun r hr=>hok r (List.mem_of_mem_take hr),rfl⟩
 ·rw [List.take_take,Nat.min_eq_left (wholes_in rs p),tape_take]
 ·have h1:=wholes_le rs p
  have h2:=whole_iff rs (k:=p)
  rw [List.length_take,Nat.min_eq_left h1,h2]
  omega
theorem beq_of_iff {a b c d:Nat} (h:a=b ↔ c=d):∃ x,((a:Int) == (b:Int))=x∧((c:Int) == (d:Int))=x:=by
 by_cases hh:a=b
 ·exact ⟨true,by simp [hh],by simp [h.1 hh]⟩
 ·refine ⟨false,by simp;omega,by simp;exact fun e=>hh (h.2 (by omega))⟩
theorem Sl.old {w w' w1:World} {size n c g:Nat} {A:Option Addr} {rows:List (List Value)} (h1:Sl w1 size A n c rows) (h:Sl w size A n c rows) (hg:w.grownBy w' (some g)) (hlt:w1.heap.size≤g):Sl w' size A n c rows:=by
 refine ⟨h.len,h.nc,h.cm,h.nil,fun hn=>?_,h.row⟩
 obtain ⟨b,off,e,hb,hc⟩:=h.seg hn
 obtain ⟨b1,off1,e1,hb1,_⟩:=h1.seg hn
 have e2:b=b1:=by rw [e] at e1;injection e1 with e1;injection e1
 refine ⟨b,off,e,Nat.lt_of_lt_of_le hb hg.size,fun i r hi j u hj=>?_⟩
 have h3:=hc i r hi j u hj
 unfold World.cell? at h3 ⊢
 rw [hg.block b hb (by simp;omega)]
 exact h3
theorem Recs.old {w w' w1:World} {A:Option Addr} {n c g:Nat} {rs:List RK} {rows:List (List Value)} {cs:Array Value} (h:Recs w A n c rs rows) (h1:Recs w1 A n c rs rows∧w1.heap.size≤g) (R:Blk w g 27 cs) (hg:w.grownBy w' (some g)):Recs w' A n c rs rows:=
 ⟨h1.1.sl.old h.sl hg h1.2,h.len,fun k a b=>(h.at_ k a b).grown R hg⟩
end Go.Proofs.YtgmojjclobkpjaaGreatDoor


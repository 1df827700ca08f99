import Derived.Test.YtgmojjclobkpjaaGreatDoorQEntD
import Derived.Test.YtgmojjclobkpjaaGreatDoorQDonP
namespace Go.Proofs.YtgmojjclobkpjaaGreatDoor
set_option linter.all false
set_option maxHeartbeats 32000000
open Go.RowKit
theorem wpList_push_g {P:Program} {w:World} {ops:Array Oper} {rest:List Oper} {o:Oper} {a:Act} {Q:Exit→Act→World→Prop} (hgd:o.guard=none) (s x:Operand) (t:TypeId)
  (ho:o.op = .call { callee:=.builtin .append,args:=#[s,x],argTypes:=#[t,t] })
  {base:Nat} {e:TypeId} {z:Value} {size bytes:Nat} (ht:P.underlying t=some (.slice e)) (hi:(P.info? e).map (fun i=>(i.zero,i.size,i.bytes))=some (some z,size,bytes)) (hzs:z.cells.size=size) (hsz:0<size)
  {A:Option Addr} {n c:Nat} {rows:List (List Value)} (hs:a.eval s = .slice A n c) (hown:Own w base e size (.slice A n c) rows) {H:Nat} (hH:w.heap.size=H) {row:Array Value} (hx:a.eval x = .slice (some ⟨H,0,none⟩) 1 1) (hl:row.size=size) (h1:∀ u∈row.toList,u.oneCell'=true)
  (h63:rows.length+1≤maxLen) (hbytes:(rows.length+1)*bytes≤140737488355328) (hbase:base≤w.heap.size)
  (h:∀ A' n' c' w',Own w' base e size (.slice A' n' c') (rows ++ [row.toList])→(w.alloc (.cells row e)).grownBy w' (Value.slice A n c).ownBlock→wpList P ops Q rest (a.put o.dst (.slice A' n' c')) w'):wpList P ops Q (o :: rest) a (w.alloc (.cells row e)):=by
 subst hH
 obtain ⟨i,hi1,hi2,hi3,hi4⟩:=info_parts hi
 refine wpList_append_own _ hgd s x t ho base e i z size bytes ht hi1 hi2 hi3 hi4 hzs hsz (.slice A n c) rows.length rows.flatten hs (hown.alloc _).1 ⟨w.heap.size,0,none⟩ 1 1 row.toList hx (by simp [hl]) ?_ h1 h63 hbytes (by simp;omega) ?_
 ·intro j u hu
  rw [Addr.add_lit]
  simp only [Nat.zero_add]
  rw [World.cell?_alloc_new,←Array.getElem?_toList];exact hu
 ·intro v' w' h2 h3 _
  have ho2:Own w' base e size v' (rows ++ [row.toList]):=by
   refine ⟨by simpa using h2,fun r hr=>?_⟩
   rcases List.mem_append.1 hr with hr|hr
   ·exact hown.2 r hr
   ·simp at hr;subst hr;simpa using hl
  obtain ⟨A',c',rfl,_⟩:=ho2.sl
  exact h A' _ c' w' ho2 h3
set_option maxRecDepth 100000 in
theorem ownS_any (now:Int) (A:Option Addr) (n c:Nat) (l:List En) (w:World) (h:StSl w A n c l) (hn:n≤1048576) (hsm:∀ x∈l,small x.val 1048576) :
  Calls Tryz.prog 95 #[.agg #[.int .i64 now,.slice A n c]] w fun e w'=>∃ A' n' c',e = .returned (.agg #[.int .i64 now,.slice A' n' c'])∧StOwn w' w.heap.size A' n' c' l∧Below w.heap.size w w':=by
 have hln:=h.len
 have HSM:=hide hsm
 clear hsm
 have R0:Blk (((w.alloc (.cells #[.int .i64 now,.slice A n c] 38)).alloc (.cells #[.int .i64 0,.slice none 0 0] 38)).alloc (.cells #[.int .i64 now,.slice none 0 0] 38)) (w.heap.size+1) 38 #[.int .i64 0,.slice none 0 0]:=(Blk.new' _ _ _ (by simp)).alloc _
 have U0:Blk (((w.alloc (.cells #[.int .i64 now,.slice A n c] 38)).alloc (.cells #[.int .i64 0,.slice none 0 0] 38)).alloc (.cells #[.int .i64 now,.slice none 0 0] 38)) (w.heap.size+2) 38 #[.int .i64 now,.slice none 0 0]:=Blk.new' _ _ _ (by simp)
 have hbs0:Below w.heap.size w (((w.alloc (.cells #[.int .i64 now,.slice A n c] 38)).alloc (.cells #[.int .i64 0,.slice none 0 0] 38)).alloc (.cells #[.int .i64 now,.slice none 0 0] 38)):=below_by
 go_enter Tryz.func95,Tryz.ntmps95
 go_wp2_with fail
 go_loopw [13] (fun s13 wr=>∃ k:Nat,k≤n∧s13 = .int .i64 k∧∃ A' n' c',Blk wr (w.heap.size+1) 38 #[.int .i64 0,.slice none 0 0]∧Blk wr (w.heap.size+2) 38 #[.int .i64 now,.slice A' n' c']∧StOwn wr w.heap.size A' n' c' (l.take k)∧Below w.heap.size w wr) (fun s13 _=>n - (intOf s13).toNat)
 case atStart=>exact ⟨0,by omega,rfl,none,0,0,R0,U0,⟨[],Own.nil,trivial⟩,hbs0⟩
 case round=>
  obtain ⟨k,hk,rfl,A',n',c',R,U,⟨rows,O,E⟩,q⟩:=hrel
  clear R0 U0 hbs0
  have hqs:=q.size
  by_cases hlt:k<n
  ·have hkl:k<l.length:=by omega
   have hrl:=E.len
   rw [List.length_take,Nat.min_eq_left (by omega)] at hrl
   have HRL:=hide hrl
   clear hrl
   obtain ⟨b,off,A1,n1,c1,A2,n2,c2,A3,n3,c3,rfl,hb,⟨i0,i1,i2,i3,i4,i5,i6,i7⟩,N,T⟩:=(h.bl q).at_ hkl
   have hsx:=HSM.out _ (List.getElem_mem hkl)
   have hnext:l.take (k+1)=l.take k ++ [l[k]]:=List.take_succ_eq_append_getElem hkl
   generalize l[k]=x at N i0 i1 i2 i3 i7 hsx hnext
   obtain ⟨xk,⟨kind,text,count,ps,is_,ss⟩,xt⟩:=x
   simp only at i0 i1 i2 i3 i7
   have l1:n1≤1048576:=by have:=N.n1_;have:=hsx.1;simp only at *;omega
   have l2:n2≤1048576:=by have:=N.n2_;have:=hsx.2.1;simp only at *;omega
   have l3:n3≤1048576:=by have:=N.n3_;have:=hsx.2.2;simp only at *;omega
   have HN:=hide hnext
   clear hnext hsx
   have hz1:(0:Int)≤(k:Int):=by omega
   have hz2:(k:Int)<(n:Int):=by omega
   have bW:Below wr.heap.size wr ((wr.alloc (.cells #[.string xk,.int .i64 kind,.string text,.int .i64 count,.slice A1 n1 c1,.slice A2 n2 c2,.slice A3 n3 c3,.int .i64 xt] 98)).alloc (.cells #[.int .i64 kind,.string text,.int .i64 count,.slice A1 n1 c1,.slice A2 n2 c2,.slice A3 n3 c3] 96)):=below_by
   have X:=(Blk.new wr 98 #[.string xk,.int .i64 kind,.string text,.int .i64 count,.slice A1 n1 c1,.slice A2 n2 c2,.slice A3 n3 c3,.int .i64 xt]).alloc (.cells #[.int .i64 kind,.string text,.int .i64 count,.slice A1 n1 c1,.slice A2 n2 c2,.slice A3 n3 c3] 96)
   have B0:Blk ((wr.alloc (.cells #[.string xk,.int .i64 kind,.string text,.int .i64 count,.slice A1 n1 c1,.slice A2 n2 c2,.slice A3 n3 c3,.int .i64 xt] 98)).alloc (.cells #[.int .i64 kind,.string text,.int .i64 count,.slice A1 n1 c1,.slice A2 n2 c2,.slice A3 n3 c3] 96)) (wr.heap.size+1) 96 #[.int .i64 kind,.string text,.int .i64 count,.slice A1 n1 c1,.slice A2 n2 c2,.slice A3 n3 c3]:=Blk.new' _ _ _ (by simp)
   have V0:=N.bl bW
   go_wp2_with fail
   obtain ⟨W,hW⟩:∃ W,W=(wr.alloc (.cells #[.string xk,.int .i64 kind,.string text,.int .i64 count,.slice A1 n1 c1,.slice A2 n2 c2,.slice A3 n3 c3,.int .i64 xt] 98)).alloc (.cells #[.int .i64 kind,.string text,.int .i64 count,.slice A1 n1 c1,.slice A2 n2 c2,.slice A3 n3 c3] 96):=⟨_,rfl⟩
   rw [←hW] at bW X B0 V0 ⊢
   clear hW i0 i1 i2 i3 i4 i5 i6 i7
   have h0:=V0.dr
   replace B0:=B0.drew
   have q0:Below wr.heap.size wr W.drew:=below_by
   refine wp_region_x (l:=[10,11,12,13,14]) (S:=fun w'=>w'.cell? ⟨wr.heap.size+1,3,none⟩=some (.slice A1 n1 c1)∧w'.cell? ⟨wr.heap.size+1,4,none⟩=some (.slice A2 n2 c2)∧w'.cell? ⟨wr.heap.size+1,5,none⟩=some (.slice A3 n3 c3)) (by kernel_rfl) ⟨B0.cell 3,B0.cell 4,B0.cell 5⟩ (fun hS=>?_)
   refine wpAnyX_tq 0 ?_
   refine wpAnyX_tq 1 ?_
   refine wpAnyX_tq 3 ?_
   refine wpAnyX_tq 4 ?_
   refine wpAnyX_tq 6 ?_
   refine wpAnyX_tq 7 ?_
   refine wpAnyX_oq 2 fun K hK=>?_
   go_wp2_with fail
   ((with_reducible refine (Clone_pair _ _ _ _ _ h0.p (pair_one _) (by omega)).mono ?_);rintro e w1 ⟨s1,rfl,o1,b1⟩)
   obtain ⟨S1,m1,k1,rfl⟩:=own_slice o1
   go_wp2_with fail
   have h1:=h0.bl b1
   have B1:=B0.below' b1
   have q1:=bstep q0 b1
   refine hK.out _ _ (Or.inr ⟨B1.cell 3,B1.cell 4,B1.cell 5⟩) (fun hS=>?_)
   replace hS:=hS.resolve_left (by decide)
   clear hK K h0 B0 q0
   refine wpAnyX_tq 9 ?_
   refine wpAnyX_oq 5 fun K hK=>?_
   go_wp2_with fail
   ((with_reducible refine (Clone_text _ _ _ _ _ h1.i (str_one _) (by omega)).mono ?_);rintro e w2 ⟨s2,rfl,o2,b2⟩)
   obtain ⟨S2,m2,k2,rfl⟩:=own_slice o2
   go_wp2_with fail
   have h2:=h1.bl b2
   have B2:=B1.below' b2
   have q2:=bstep q1 b2
   replace o1:=(o1.below b2)
   refine hK.out _ _ (Or.inr ⟨B2.cell 3,B2.cell 4,B2.cell 5⟩) (fun hS=>?_)
   replace hS:=hS.resolve_left (by decide)
   clear hK K h1 B1 q1
   refine wpAnyX_oq 8 fun K hK=>?_
   go_wp2_with fail
   ((with_reducible refine (Clone_score _ _ _ _ _ h2.s (score_one _) (by omega)).mono ?_);rintro e w3 ⟨s3,rfl,o3,b3⟩)
   obtain ⟨S3,m3,k3,rfl⟩:=own_slice o3
   go_wp2_with fail
   have B3:=B2.below' b3
   have q3:=bstep q2 b3
   replace o1:=(o1.below b3)
   replace o2:=o2.below b3
   refine hK.out _ _ (Or.inr ⟨B3.cell 3,B3.cell 4,B3.cell 5⟩) (fun hS=>?_)
   have bx3:Below W.heap.size W w3:=bstep (bstep (Below.trans (Below.refl _ W).drew b1) b2) b3
   have X3:=X.below' bx3
   have U3:=U.below' q3;have R3:=R.below' q3;have O3:=O.below q3;have E3:=E.fr (Fr.of q3)
   have q9:Below w.heap.size w w3:=bstep q q3
   clear hK K hS h2 B2 q2 b1 b2 b3 bx3 X U R O E q q3 bW V0
   have hsz3:w.heap.size+2<w3.heap.size:=U3.lt
   have hx3:=X3.lt
   have hb3':=B3.lt
   have hne:wr.heap.size+1≠w.heap.size+2:=by intro e;exact blk_ne B3 U3 (by decide) e
   have hne2:wr.heap.size+1≠w.heap.size+1:=by intro e;exact blk_ne B3 R3 (by decide) e
   (try clear cB3 fB3);have cB3:=B3.cell;have fB3:=B3.frozen
   refine wpAnyX_oq 10 fun K hK=>?_
   go_wp2_with fail
   have B4:=B3.set' (i:=3) (u:=(.slice S1 m1 k1)) rfl
   refine hK.out _ _ (Or.inl (by decide)) (fun hS=>?_)
   clear hK K hS cB3 fB3
   refine wpAnyX_pq 11 ?_
   (try clear cB4 fB4);have cB4:=B4.cell;have fB4:=B4.frozen
   refine wpAnyX_oq 12 fun K hK=>?_
   go_wp2_with fail
   have B5:=B4.set' (i:=4) (u:=(.slice S2 m2 k2)) rfl
   refine hK.out _ _ (Or.inl (by decide)) (fun hS=>?_)
   clear hK K hS cB4 fB4
   refine wpAnyX_pq 13 ?_
   (try clear cB5 fB5);have cB5:=B5.cell;have fB5:=B5.frozen
   refine wpAnyX_oq 14 fun K hK=>?_
   go_wp2_with fail
   have B6:=B5.set' (i:=5) (u:=(.slice S3 m3 k3)) rfl
   refine hK.out _ _ (Or.inl (by decide)) (fun hS=>?_)
   clear hK K hS cB5 fB5
   refine wpAnyX_done (by kernel_rfl) ?_ _
   have gr:w3.grownBy (((w3.setCell ⟨wr.heap.size+1,3,none⟩ (.slice S1 m1 k1)).setCell ⟨wr.heap.size+1,4,none⟩ (.slice S2 m2 k2)).setCell ⟨wr.heap.size+1,5,none⟩ (.slice S3 m3 k3)) (some (wr.heap.size+1)):=
    grown_trans (grown_trans (grown_setRow_cell w3 _ _ _) (grown_setRow_cell _ _ _ _)) (grown_setRow_cell _ _ _ _)
   have fr:=Fr.grown B3 gr
   have X6:=grown_blk X3 gr (by omega)
   have U6:=grown_blk U3 gr hne.symm
   have R6:=grown_blk R3 gr hne2.symm
   have q6:=below_grow q9 gr (by omega) (by omega)
   have vn:VSl w3 ⟨kind,text,count,ps,is_,ss⟩ S1 m1 k1 S2 m2 k2 S3 m3 k3:=⟨o1.sl',o2.sl',o3.sl'⟩
   have tn:Tps w3 S1 S2 S3:=⟨own_tp o1,own_tp o2,own_tp o3⟩
   have V6:=vn.fr tn fr
   have T6:=tn.fr fr
   have S6:StOwn (((w3.setCell ⟨wr.heap.size+1,3,none⟩ (.slice S1 m1 k1)).setCell ⟨wr.heap.size+1,4,none⟩ (.slice S2 m2 k2)).setCell ⟨wr.heap.size+1,5,none⟩ (.slice S3 m3 k3)) w.heap.size A' n' c' (l.take k):=StOwn.grown ⟨rows,O3,E3⟩ B3 gr
   clear B4 B5 X3 U3 R3 O3 E3 vn tn o1 o2 o3 fr gr q9 B3 hne hne2
   obtain ⟨w6,hw6⟩:∃ w6,w6=(((w3.setCell ⟨wr.heap.size+1,3,none⟩ (.slice S1 m1 k1)).setCell ⟨wr.heap.size+1,4,none⟩ (.slice S2 m2 k2)).setCell ⟨wr.heap.size+1,5,none⟩ (.slice S3 m3 k3)):=⟨_,rfl⟩
   rw [←hw6] at X6 U6 R6 q6 V6 T6 S6 B6 ⊢
   clear hw6 hsz3 hx3 hb3'
   obtain ⟨rows6,O6,E6⟩:=S6
   have hrl:=E6.len
   rw [List.length_take,Nat.min_eq_left (by omega)] at hrl
   have hq6:=q6.size
   have hux:=U6.lt
   (try clear cX6 fX6);have cX6:=X6.cell;have fX6:=X6.frozen;(try clear cU6 fU6);have cU6:=U6.cell;have fU6:=U6.frozen;(try clear cB6 fB6);have cB6:=B6.cell;have fB6:=B6.frozen
   go_wp2_with (at_builtin;refine wpList_push_g rfl _ _ _ rfl Tryz.underlying36 ent_info_z rfl (by omega) (by rfl) O6 (H:=w6.heap.size) rfl (by rfl) (row:=#[.string xk,.int .i64 kind,.string text,.int .i64 count,.slice S1 m1 k1,.slice S2 m2 k2,.slice S3 m3 k3,.int .i64 xt]) rfl (all_one rfl) ?p1 ?p2 ?p3 ?p4)
   case p1=>unfold maxLen;omega
   case p2=>omega
   case p3=>exact hq6
   case p4=>
    intro A9 n9 c9 w9 O9 gr9
    have ba:Below w6.heap.size w6 (w6.alloc (.cells #[.string xk,.int .i64 kind,.string text,.int .i64 count,.slice S1 m1 k1,.slice S2 m2 k2,.slice S3 m3 k3,.int .i64 xt] 98)):=below_by
    have O7:=O6.below ba
    have f9:=(Fr.of ba).trans (Fr.own O7 gr9)
    have U9:=blk_other (U6.below' ba) O7 gr9
    have R9:=blk_other (R6.below' ba) O7 gr9
    have q9:=(bstep q6 ba).trans (below_grown O7 gr9 (by simp;omega))
    have hq9:=q9.size
    have S9:StOwn w9 w.heap.size A9 n9 c9 (l.take (k+1)):=by
     refine ⟨_,O9,?_⟩
     rw [HN.out]
     exact (E6.fr f9).app (Ens.one_ ⟨S1,m1,k1,S2,m2,k2,S3,m3,k3,rfl,V6.fr T6 f9,T6.fr f9⟩)
    clear cX6 fX6 cU6 fU6 cB6 fB6 O6 O9 gr9 ba O7 f9 U6 R6 X6 B6 V6 T6 E6
    have hu9:=U9.lt
    (try clear cU9 fU9);have cU9:=U9.cell;have fU9:=U9.frozen
    go_wp2_with fail
    go_roundw
    case rel=>
     have gu:=grown_setRow_cell w9 (w.heap.size+2) 1 (.slice A9 n9 c9)
     exact ⟨k+1,by omega,by go_num,A9,n9,c9,grown_blk R9 gu (by omega),U9.set' (i:=1) (u:=.slice A9 n9 c9) rfl,S9.grown U9 gu,below_grow q9 gu hq9 (by omega)⟩
    case measure=>simp [intOf];omega
  ·obtain rfl:k=n:=by omega
   have hfull:l.take k=l:=List.take_of_length_le (by omega)
   rw [hfull] at E
   have hr1:=R.lt
   have hu1:=U.lt
   (try clear cU fU);have cU:=U.cell;have fU:=U.frozen;(try clear cR fR);have cR:=R.cell;have fR:=R.frozen
   go_wp2_with fail
   have R1:=R.set' (i:=0) (u:=.int .i64 now) rfl
   have R2:=R1.set' (i:=1) (u:=.slice A' n' c') rfl
   have gr:=grown_trans (grown_setRow_cell wr (w.heap.size+1) 0 (.int .i64 now)) (grown_setRow_cell _ (w.heap.size+1) 1 (.slice A' n' c'))
   have cR2:=R2.cell
   refine bodyPost_ret (v:=.agg #[.int .i64 now,.slice A' n' c']) ?_ rfl ⟨A',n',c',rfl,StOwn.grown ⟨rows,O,E⟩ R gr,below_grow q gr hqs (by omega)⟩
   simp [results,Tryz.results95,go_sem,cR2]
attribute [local go_sem ↓] Go.wp_at_zero Go.wp_at_succ
def Kd (w:World) (B g:Nat) (now:Int) (l:List En) (a:Int) (t:Bool):Prop:=
 ∃ A n c,Blk w g 183 #[.int .i64 now,.slice A n c,.int .i64 a,.bool t]∧StOwn w B A n c l
structure KMov (B:Nat) (w w':World):Prop where
 bel:Below B w w'
 frm:∀ k t cs,Blk w k t cs→t≠98→t≠183→Blk w' k t cs
section
variable {w w' w'':World} {B g:Nat} {t:TypeId} {cs:Array Value}
theorem KMov.of (h:Below w.heap.size w w') (hB:B≤w.heap.size):KMov B w w':=⟨h.mono hB,fun _ _ _ hb _ _=>hb.below' h⟩
theorem KMov.trans (h:KMov B w w') (k:KMov B w' w''):KMov B w w'':=⟨h.bel.trans k.bel,fun b t cs hb h1 h2=>k.frm b t cs (h.frm b t cs hb h1 h2) h1 h2⟩
theorem KMov.size (h:KMov B w w'):w.heap.size≤w'.heap.size:=h.bel.size
theorem KMov.next (h:KMov B w w') (hB:B≤w.heap.size) (k:Below w'.heap.size w' w''):KMov B w w'':=h.trans (KMov.of k (by have:=h.size;omega))
theorem KMov.e (h:EMov B w w'):KMov B w w':=⟨h.bel,fun k t cs hb h1 _=>h.frm k t cs hb h1⟩
theorem KMov.grownK (R:Blk w g 183 cs) (hg:w.grownBy w' (some g)) (hB:B≤g) (hw:B≤w.heap.size):KMov B w w':=
 ⟨below_grow (Below.refl B w) hg hw hB,fun _ _ _ hb _ h2=>grown_blk hb hg (blk_ne hb R h2)⟩
theorem KMov.newblk (h:KMov B w w') {b:Nat} (hg:w'.grownBy w'' (some b)) (hb:w.heap.size≤b) (hB:B≤w.heap.size):KMov B w w'':=
 ⟨below_grow h.bel hg (by have:=h.size;omega) (by omega),fun k t cs hk h1 h2=>grown_blk (h.frm k t cs hk h1 h2) hg (by have:=hk.lt;omega)⟩
theorem KMov.fr (h:KMov B w w'):Fr w w':=⟨h.size,fun k cs hb=>h.frm k _ cs hb (by decide) (by decide),fun k cs hb=>h.frm k _ cs hb (by decide) (by decide),fun k cs hb=>h.frm k _ cs hb (by decide) (by decide)⟩
theorem Kd.bl {now:Int} {l:List En} {a:Int} {t:Bool} (h:Kd w B g now l a t) (hb:Below w.heap.size w w'):Kd w' B g now l a t:=by
 obtain ⟨A,n,c,h1,h2⟩:=h;exact ⟨A,n,c,h1.below' hb,h2.bl hb⟩
end
theorem find_any (key:ByteArray) (B g:Nat) (now a:Int) (t:Bool) (l:List En) (w:World) (h:Kd w B g now l a t) (hr:l.Pairwise Rk) (hl:l.length≤1048576) (hg:B≤g) (hB:B≤w.heap.size) :
  Calls Tryz.prog 129 #[.pointer (some ⟨g,0,none⟩),.string key] w fun e w'=>e = .returned (.tuple #[])∧Kd w' B g now l (keyAt key l) (keyHas key l)∧KMov B w w':=by
 obtain ⟨A,n,c,G,O⟩:=h
 have hb:=Bin_ent A n c l key w hl O.sl hr
 generalize keyHas key l=kh at *
 generalize keyAt key l=k at *
 have HB:=hide hb
 clear hb
 (try clear cG fG);have cG:=G.cell;have fG:=G.frozen
 go_enter Tryz.func129,Tryz.ntmps129
 go_wp2_with fail
 refine HB.out.mono ?_
 rintro e w1 ⟨rfl,hb1⟩
 have G1:=G.below' hb1
 have O1:=O.bl hb1
 have hs1:=hb1.size
 clear cG fG
 (try clear cG1 fG1);have cG1:=G1.cell;have fG1:=G1.frozen
 go_wp2_with fail
 go_end0
 have G2:=G1.set' (i:=2) (u:=.int .i64 (k:Int)) rfl
 have G3:=G2.set' (i:=3) (u:=.bool kh) rfl
 have gr:=grown_trans (grown_setRow_cell w1 g 2 (.int .i64 (k:Int))) (grown_setRow_cell _ g 3 (.bool kh))
 exact ⟨rfl,⟨A,n,c,G3,O1.grown G1 gr⟩,(KMov.of hb1 hB).trans (KMov.grownK G1 gr hg (by omega))⟩
set_option maxRecDepth 100000 in
theorem remove_any (B g k:Nat) (now:Int) (t:Bool) (l:List En) (w:World) (h:Kd w B g now l (k:Int) t) (hk:k<l.length) (hl:l.length≤1048576) (hg:B≤g) (hB:B≤w.heap.size) :
  Calls Tryz.prog 130 #[.pointer (some ⟨g,0,none⟩)] w fun e w'=>e = .returned (.tuple #[])∧Kd w' B g now (delRows l k) (k:Int) t∧KMov B w w':=by
 obtain ⟨A,n,c,G,rows,O,E⟩:=h
 have hrl:=E.len
 have hn:=O.n_eq
 have hkn:k<n:=by omega
 have hnn:n≤1048576:=by omega
 clear hn hrl
 have hwi:IntKind.i64.wrap ((k:Int)+1)=(k:Int)+1:=IntWalk.i64_in _ (by omega)
 go_enter Tryz.func130,Tryz.ntmps130
 go_wp2_with fail
 refine wp_region_x (l:=[19]) (S:=fun w'=>w'.cell? ⟨g,1,none⟩=some (.slice A n c)∧w'.cell? ⟨g,2,none⟩=some (.int .i64 (k:Int))) (by kernel_rfl) ⟨G.drew.cell 1,G.drew.cell 2⟩ (fun hS=>?_)
 refine wpAnyX_tq 0 ?_
 refine wpAnyX_tq 1 ?_
 refine wpAnyX_tq 2 ?_
 refine wpAnyX_tq 3 ?_
 refine wpAnyX_tq 4 ?_
 refine wpAnyX_tq 5 ?_
 refine wpAnyX_tq 6 ?_
 refine wpAnyX_tq 7 ?_
 refine wpAnyX_tq 8 ?_
 refine wpAnyX_tq 9 ?_
 refine wpAnyX_tq 10 ?_
 refine wpAnyX_tq 11 ?_
 refine wpAnyX_tq 12 ?_
 refine wpAnyX_tq 13 ?_
 refine wpAnyX_tq 14 ?_
 (try simp only [hwi])
 refine wpAnyX_oq 15 fun K hK=>?_
 go_wp2_with fail
 ((with_reducible refine (Delete_ent A n c B k rows _ (Own.drew O) E.one hkn hnn).mono ?_);rintro e w3 ⟨A',n',c',rfl,o3,g3⟩)
 go_wp2_with fail
 have G3:=blk_other G.drew (Own.drew O) g3
 have q3:EMov B w w3:=(EMov.of (Below.refl _ w).drew hB).trans (EMov.own (Own.drew O) g3 hB)
 have E3:=(E.del k).fr q3.fr
 refine hK.out _ _ (Or.inr ⟨G3.cell 1,G3.cell 2⟩) (fun hS=>?_)
 replace hS:=hS.resolve_left (by decide)
 clear hK K
 (try clear cG3 fG3);have cG3:=G3.cell;have fG3:=G3.frozen
 refine wpAnyX_ps 16 ?_
 refine wpAnyX_ps 17 ?_
 refine wpAnyX_ps 18 ?_
 refine wpAnyX_oq 19 fun K hK=>?_
 go_wp2_with fail
 have G4:=G3.set' (i:=1) (u:=.slice A' n' c') rfl
 have gr:=grown_setRow_cell w3 g 1 (.slice A' n' c')
 have S3:StOwn w3 B A' n' c' (delRows l k):=⟨_,o3,E3⟩
 have S4:=S3.grown G3 gr
 have q4:=(KMov.e q3).trans (KMov.grownK G3 gr hg (by have:=q3.size;omega))
 refine hK.out _ _ (Or.inl (by decide)) (fun hS=>?_)
 clear hK K hS
 refine wpAnyX_done (by kernel_rfl) ?_ _
 go_wp2_with fail
 go_end0
 exact ⟨rfl,⟨A',n',c',G4,S4⟩,q4⟩
theorem Own.row6 {w:World} {B g n c i:Nat} {e:TypeId} {rows:List (List Value)} (h:Own w B e 8 (.slice (some ⟨g,0,none⟩) n c) rows) {y0 y1 y2 y3 y4 y5 y6 y7:Value} (hi:rows[i]?=some [y0,y1,y2,y3,y4,y5,y6,y7]) (u1 u2 u3 u4 u5 u6:Value) :
  Own ((((((w.setCell ⟨g,i*8+1,none⟩ u1).setCell ⟨g,i*8+2,none⟩ u2).setCell ⟨g,i*8+3,none⟩ u3).setCell ⟨g,i*8+4,none⟩ u4).setCell ⟨g,i*8+5,none⟩ u5).setCell ⟨g,i*8+6,none⟩ u6)
   B e 8 (.slice (some ⟨g,0,none⟩) n c) (rows.set i [y0,u1,u2,u3,u4,u5,u6,y7]):=by
 have hl:i<rows.length:=by
  rcases Nat.lt_or_ge i rows.length with h'|h'
  ·exact h'
  ·rw [List.getElem?_eq_none h'] at hi;cases hi
 have he:rows[i]=[y0,y1,y2,y3,y4,y5,y6,y7]:=by rw [List.getElem?_eq_getElem hl] at hi;injection hi
 have s1:=h.store (i:=i) (j:=1) (u:=u1) hl (by omega)
 have s2:=s1.store (i:=i) (j:=2) (u:=u2) (by simpa using hl) (by omega)
 have s3:=s2.store (i:=i) (j:=3) (u:=u3) (by simpa using hl) (by omega)
 have s4:=s3.store (i:=i) (j:=4) (u:=u4) (by simpa using hl) (by omega)
 have s5:=s4.store (i:=i) (j:=5) (u:=u5) (by simpa using hl) (by omega)
 have s6:=s5.store (i:=i) (j:=6) (u:=u6) (by simpa using hl) (by omega)
 simp only [List.getElem_set_self,List.set_set,he] at s6
 exact s6
theorem Own.row1 {w:World} {B g n c i:Nat} {e:TypeId} {rows:List (List Value)} (h:Own w B e 8 (.slice (some ⟨g,0,none⟩) n c) rows) {y0 y1 y2 y3 y4 y5 y6 y7:Value} (hi:rows[i]?=some [y0,y1,y2,y3,y4,y5,y6,y7]) (u:Value) :
  Own (w.setCell ⟨g,i*8+7,none⟩ u) B e 8 (.slice (some ⟨g,0,none⟩) n c) (rows.set i [y0,y1,y2,y3,y4,y5,y6,u]):=by
 have hl:i<rows.length:=by
  rcases Nat.lt_or_ge i rows.length with h'|h'
  ·exact h'
  ·rw [List.getElem?_eq_none h'] at hi;cases hi
 have he:rows[i]=[y0,y1,y2,y3,y4,y5,y6,y7]:=by rw [List.getElem?_eq_getElem hl] at hi;injection hi
 have s1:=h.store (i:=i) (j:=7) (u:=u) hl (by omega)
 simp only [he] at s1
 exact s1
def setS (l:List En) (k:Nat) (t:Bool) (c:Cmd) (v:Va):List En:=
 match (if t=true then l else insRows l k ⟨c.key,zeroVa,0⟩)[k]? with
 | none=>l
 | some x=>(if t=true then l else insRows l k ⟨c.key,zeroVa,0⟩).set k ⟨x.key,v,if c.kind=1 then 0 else x.till⟩
set_option maxRecDepth 100000 in
theorem setK_any (c:Cmd) (v:Va) (B g k:Nat) (now:Int) (t:Bool) (l:List En) (A1 A2 A3:Option Addr) (n1 c1 n2 c2 n3 c3:Nat) (w:World) (h:Kd w B g now l (k:Int) t) (hN:VSl w v A1 n1 c1 A2 n2 c2 A3 n3 c3) (hT:Tps w A1 A2 A3)
  (hk:if t=true then k<l.length else k≤l.length) (hl:l.length≤1048576) (hg:B≤g) (hB:B≤w.heap.size) :
  Calls Tryz.prog 133 #[.pointer (some ⟨g,0,none⟩),.agg #[.int .i64 c.kind,.string c.key,.string c.field,.string c.text,.int .i64 c.n],.agg #[.int .i64 v.kind,.string v.text,.int .i64 v.count,.slice A1 n1 c1,.slice A2 n2 c2,.slice A3 n3 c3]] w fun e w'=>
   e = .returned (.tuple #[])∧Kd w' B g now (setS l k t c v) (k:Int) t∧KMov B w w':=by
 obtain ⟨A,n,cc,G,rows,O,E⟩:=h
 obtain ⟨D,hD⟩:∃ D,D=setS l k t c v:=⟨_,rfl⟩
 rw [←hD]
 unfold setS at hD
 obtain ⟨ck,ckey,cf,ct,cn⟩:=c
 obtain ⟨vk,vt,vc,ps,is_,ss⟩:=v
 simp only at hD ⊢
 have HD:=hide hD
 clear hD
 have hnl:l.length=n:=by rw [E.len];exact O.n_eq.symm
 have HNL:=hide hnl
 have bA:Below w.heap.size w ((w.alloc (.cells #[.int .i64 ck,.string ckey,.string cf,.string ct,.int .i64 cn] 31)).alloc (.cells #[.int .i64 vk,.string vt,.int .i64 vc,.slice A1 n1 c1,.slice A2 n2 c2,.slice A3 n3 c3] 96)):=below_by
 have C0:Blk ((w.alloc (.cells #[.int .i64 ck,.string ckey,.string cf,.string ct,.int .i64 cn] 31)).alloc (.cells #[.int .i64 vk,.string vt,.int .i64 vc,.slice A1 n1 c1,.slice A2 n2 c2,.slice A3 n3 c3] 96)) w.heap.size 31 #[.int .i64 ck,.string ckey,.string cf,.string ct,.int .i64 cn]:=(Blk.new _ _ _).alloc _
 have V0:Blk ((w.alloc (.cells #[.int .i64 ck,.string ckey,.string cf,.string ct,.int .i64 cn] 31)).alloc (.cells #[.int .i64 vk,.string vt,.int .i64 vc,.slice A1 n1 c1,.slice A2 n2 c2,.slice A3 n3 c3] 96)) (w.heap.size+1) 96 #[.int .i64 vk,.string vt,.int .i64 vc,.slice A1 n1 c1,.slice A2 n2 c2,.slice A3 n3 c3]:=Blk.new' _ _ _ (by simp)
 have G0:=G.below' bA
 replace O:=O.below bA
 replace E:=E.fr (Fr.of bA)
 have N0:=hN.bl bA
 have T0:=hT.fr (Fr.of bA)
 have q0:=KMov.of bA hB
 (try clear cG0 fG0);have cG0:=G0.cell;have fG0:=G0.frozen;(try clear cC0 fC0);have cC0:=C0.cell;have fC0:=C0.frozen;(try clear cV0 fV0);have cV0:=V0.cell;have fV0:=V0.frozen
 cases t with
 | true=>
  simp only [if_true] at hk HD
  go_enter Tryz.func133,Tryz.ntmps133
  go_wp2_with fail
  obtain ⟨w0,hw0⟩:∃ w0,w0=((w.alloc (.cells #[.int .i64 ck,.string ckey,.string cf,.string ct,.int .i64 cn] 31)).alloc (.cells #[.int .i64 vk,.string vt,.int .i64 vc,.slice A1 n1 c1,.slice A2 n2 c2,.slice A3 n3 c3] 96)):=⟨_,rfl⟩
  rw [←hw0] at C0 V0 G0 O E N0 T0 q0 bA ⊢
  clear hw0 cG0 fG0 cC0 fC0 cV0 fV0
  have hB0:B≤w0.heap.size:=by have:=q0.size;omega
  have hkn:k<n:=by omega
  have hkl:=hk
  clear hnl
  obtain ⟨b,hb1,hbB,hbl,hbn,hbz,hbc⟩:=O.block (by have:=O.n_eq;omega)
  subst hb1
  have hz1:(0:Int)≤(k:Int):=by omega
  have hz2:(k:Int)<(n:Int):=by omega
  (try clear cG0 fG0);have cG0:=G0.cell;have fG0:=G0.frozen
  go_quiet (fail)
  obtain ⟨wq,hwq⟩:∃ wq,wq=w0.drewN nq:=⟨_,rfl⟩
  rw [←hwq]
  have bq:Below w0.heap.size w0 wq:=by rw [hwq];exact bdrewN (Below.refl _ _) nq
  have hsq:wq.heap.size=w0.heap.size:=by rw [hwq];rfl
  clear hwq hbc hbz cG0 fG0
  replace C0:=C0.below' bq;replace V0:=V0.below' bq;replace G0:=G0.below' bq;replace O:=O.below bq
  replace N0:=N0.bl bq;replace q0:=q0.next hB bq
  replace E:=E.fr (Fr.of bq)
  replace T0:=Tps.fr T0 (Fr.of bq)
  replace hB0:B≤wq.heap.size:=by omega
  obtain ⟨r,hr,hat⟩:=E.at_ (k:=k) hkl
  have hx:l[k]?=some l[k]:=List.getElem?_eq_getElem hkl
  generalize l[k]=x at hat hx
  obtain ⟨xk,xv,xt⟩:=x
  obtain ⟨Z1,y1,d1,Z2,y2,d2,Z3,y3,d3,rfl,-,-⟩:=hat
  simp only [En.cells] at hr
  obtain ⟨b',hb1,-,-,-,hbz,hbc⟩:=O.block (by have:=O.n_eq;omega)
  injection hb1 with hb1
  injection hb1 with hb1
  subst hb1
  have z1:=hbc k _ hr 1 _ rfl;have z2:=hbc k _ hr 2 _ rfl;have z3:=hbc k _ hr 3 _ rfl;have z4:=hbc k _ hr 4 _ rfl
  have z5:=hbc k _ hr 5 _ rfl;have z6:=hbc k _ hr 6 _ rfl;have z7:=hbc k _ hr 7 _ rfl
  have hbg:=own_not O G0
  have hbcm:=own_not O C0
  have hbv:=own_not O V0
  have O6:=O.row6 hr (.int .i64 vk) (.string vt) (.int .i64 vc) (.slice A1 n1 c1) (.slice A2 n2 c2) (.slice A3 n3 c3)
  have gr6:wq.grownBy ((((((wq.setCell ⟨b,k*8+1,none⟩ (.int .i64 vk)).setCell ⟨b,k*8+2,none⟩ (.string vt)).setCell ⟨b,k*8+3,none⟩ (.int .i64 vc)).setCell ⟨b,k*8+4,none⟩ (.slice A1 n1 c1)).setCell ⟨b,k*8+5,none⟩ (.slice A2 n2 c2)).setCell ⟨b,k*8+6,none⟩ (.slice A3 n3 c3)) (some b):=grown_trans (grown_trans (grown_trans (grown_trans (grown_trans (grown_setRow_cell wq b _ _) (grown_setRow_cell _ b _ _)) (grown_setRow_cell _ b _ _)) (grown_setRow_cell _ b _ _)) (grown_setRow_cell _ b _ _)) (grown_setRow_cell _ b _ _)
  have hrl:k<rows.length:=by have:=O.n_eq;omega
  have hr6:(rows.set k [.string xk,.int .i64 vk,.string vt,.int .i64 vc,.slice A1 n1 c1,.slice A2 n2 c2,.slice A3 n3 c3,.int .i64 xt])[k]?=some [.string xk,.int .i64 vk,.string vt,.int .i64 vc,.slice A1 n1 c1,.slice A2 n2 c2,.slice A3 n3 c3,.int .i64 xt]:=by rw [List.getElem?_set_self hrl]
  have O7:=O6.row1 hr6 (.int .i64 0)
  rw [List.set_set] at O7
  have gr7:wq.grownBy (((((((wq.setCell ⟨b,k*8+1,none⟩ (.int .i64 vk)).setCell ⟨b,k*8+2,none⟩ (.string vt)).setCell ⟨b,k*8+3,none⟩ (.int .i64 vc)).setCell ⟨b,k*8+4,none⟩ (.slice A1 n1 c1)).setCell ⟨b,k*8+5,none⟩ (.slice A2 n2 c2)).setCell ⟨b,k*8+6,none⟩ (.slice A3 n3 c3)).setCell ⟨b,k*8+7,none⟩ (.int .i64 0)) (some b):=grown_trans gr6 (grown_setRow_cell _ b _ _)
  have q6:=EMov.own O gr6 hB0
  have q7:=EMov.own O gr7 hB0
  have E6:Ens ((((((wq.setCell ⟨b,k*8+1,none⟩ (.int .i64 vk)).setCell ⟨b,k*8+2,none⟩ (.string vt)).setCell ⟨b,k*8+3,none⟩ (.int .i64 vc)).setCell ⟨b,k*8+4,none⟩ (.slice A1 n1 c1)).setCell ⟨b,k*8+5,none⟩ (.slice A2 n2 c2)).setCell ⟨b,k*8+6,none⟩ (.slice A3 n3 c3)) (l.set k ⟨xk,⟨vk,vt,vc,ps,is_,ss⟩,xt⟩) (rows.set k [.string xk,.int .i64 vk,.string vt,.int .i64 vc,.slice A1 n1 c1,.slice A2 n2 c2,.slice A3 n3 c3,.int .i64 xt]):=(E.fr q6.fr).set k ⟨A1,n1,c1,A2,n2,c2,A3,n3,c3,rfl,N0.fr T0 q6.fr,T0.fr q6.fr⟩
  have E7:Ens (((((((wq.setCell ⟨b,k*8+1,none⟩ (.int .i64 vk)).setCell ⟨b,k*8+2,none⟩ (.string vt)).setCell ⟨b,k*8+3,none⟩ (.int .i64 vc)).setCell ⟨b,k*8+4,none⟩ (.slice A1 n1 c1)).setCell ⟨b,k*8+5,none⟩ (.slice A2 n2 c2)).setCell ⟨b,k*8+6,none⟩ (.slice A3 n3 c3)).setCell ⟨b,k*8+7,none⟩ (.int .i64 0)) (l.set k ⟨xk,⟨vk,vt,vc,ps,is_,ss⟩,0⟩) (rows.set k [.string xk,.int .i64 vk,.string vt,.int .i64 vc,.slice A1 n1 c1,.slice A2 n2 c2,.slice A3 n3 c3,.int .i64 0]):=(E.fr q7.fr).set k ⟨A1,n1,c1,A2,n2,c2,A3,n3,c3,rfl,N0.fr T0 q7.fr,T0.fr q7.fr⟩
  have G6:=blk_other G0 O gr6
  have G7:=blk_other G0 O gr7
  have K6:=hide (And.intro O6 (And.intro E6 (And.intro G6 q6)))
  have K7:=hide (And.intro O7 (And.intro E7 (And.intro G7 q7)))
  have HX:=hide hx
  clear hx hr hr6 hbc E O hrl hbn O6 O7 E6 E7 G6 G7 q6 q7 gr6 gr7 N0 T0 hN hT bq
  (try clear cC0 fC0);have cC0:=C0.cell;have fC0:=C0.frozen;(try clear cV0 fV0);have cV0:=V0.cell;have fV0:=V0.frozen
  clear G0
  by_cases hc1:ck=1
  ·subst hc1
   go_wp2_with fail
   go_end0
   obtain ⟨O7,E7,G7,q7⟩:=K7.out
   exact ⟨rfl,⟨_,_,_,G7,⟨_,O7,by (have hd:=HD.out;rw [HX.out] at hd;simp only [if_true] at hd;rw [hd];exact E7)⟩⟩,q0.trans (KMov.e q7)⟩
  ·have hc1':(ck == 1)=false:=by rw [beq_eq_false_iff_ne];exact hc1
   go_wp2_with fail
   go_end0
   obtain ⟨O6,E6,G6,q6⟩:=K6.out
   exact ⟨rfl,⟨_,_,_,G6,⟨_,O6,by (have hd:=HD.out;rw [HX.out] at hd;simp only [if_neg hc1] at hd;rw [hd];exact E6)⟩⟩,q0.trans (KMov.e q6)⟩
 | false=>
  simp only [Bool.false_eq_true,if_false] at hk HD
  go_enter Tryz.func133,Tryz.ntmps133
  go_wp2_with fail
  obtain ⟨w0,hw0⟩:∃ w0,w0=((w.alloc (.cells #[.int .i64 ck,.string ckey,.string cf,.string ct,.int .i64 cn] 31)).alloc (.cells #[.int .i64 vk,.string vt,.int .i64 vc,.slice A1 n1 c1,.slice A2 n2 c2,.slice A3 n3 c3] 96)):=⟨_,rfl⟩
  rw [←hw0] at C0 V0 G0 O E N0 T0 q0 bA ⊢
  clear hw0 cG0 fG0 cC0 fC0 cV0 fV0
  have hB0:B≤w0.heap.size:=by have:=q0.size;omega
  have hkn:k≤n:=by omega
  have hkl:=hk
  have hn20:n≤1048576:=by omega
  clear hnl
  have hwx:w.heap.size<w0.heap.size:=C0.lt
  refine wp_region_x (l:=[18]) (S:=fun w'=>w'.cell? ⟨g,1,none⟩=some (.slice A n cc)∧w'.cell? ⟨g,2,none⟩=some (.int .i64 (k:Int))∧w'.cell? ⟨w.heap.size,1,none⟩=some (.string ckey)) (by kernel_rfl) ⟨G0.drew.cell 1,G0.drew.cell 2,C0.drew.cell 1⟩ (fun hS=>?_)
  refine wpAnyX_tq 0 ?_
  refine wpAnyX_tq 1 ?_
  refine wpAnyX_tq 2 ?_
  refine wpAnyX_tq 3 ?_
  refine wpAnyX_tq 4 ?_
  refine wpAnyX_tq 5 ?_
  refine wpAnyX_tq 6 ?_
  refine wpAnyX_tq 7 ?_
  refine wpAnyX_tq 8 ?_
  refine wpAnyX_tq 9 ?_
  refine wpAnyX_tq 10 ?_
  refine wpAnyX_tq 11 ?_
  refine wpAnyX_tq 12 ?_
  refine wpAnyX_oq 13 fun K hK=>?_
  go_wp2_with fail
  have bB:Below w0.heap.size w0 (w0.alloc (.cells #[.string ckey,.int .i64 0,.string { data:=#[] },.int .i64 0,.slice none 0 0,.slice none 0 0,.slice none 0 0,.int .i64 0] 98)).drew:=below_by
  have X2:Blk (w0.alloc (.cells #[.string ckey,.int .i64 0,.string { data:=#[] },.int .i64 0,.slice none 0 0,.slice none 0 0,.slice none 0 0,.int .i64 0] 98)).drew w0.heap.size 98 #[.string ckey,.int .i64 0,.string { data:=#[] },.int .i64 0,.slice none 0 0,.slice none 0 0,.slice none 0 0,.int .i64 0]:=Blk.new _ _ _
  obtain ⟨w2,hw2⟩:∃ w2,w2=(w0.alloc (.cells #[.string ckey,.int .i64 0,.string { data:=#[] },.int .i64 0,.slice none 0 0,.slice none 0 0,.slice none 0 0,.int .i64 0] 98)).drew:=⟨_,rfl⟩
  have hz2:w2.heap.size=w0.heap.size+1:=by rw [hw2];simp
  rw [←hw2] at bB X2 ⊢
  clear hw2
  have hbv:some w0.heap.size≠(Value.slice A n cc).ownBlock:=by
   intro e
   obtain ⟨cur,hcur⟩:=own_typed O e.symm
   have:w0.heap.size<w0.heap.size:=(Array.getElem?_eq_some_iff.1 hcur).1
   omega
  replace C0:=C0.below' bB;replace V0:=V0.below' bB;replace G0:=G0.below' bB;replace O:=O.below bB
  replace N0:=N0.bl bB;replace q0:=q0.next hB bB
  replace E:=E.fr (Fr.of bB)
  replace T0:=Tps.fr T0 (Fr.of bB)
  replace hB0:B≤w2.heap.size:=by omega
  refine hK.out _ _ (Or.inr ⟨G0.cell 1,G0.cell 2,C0.cell 1⟩) (fun hS=>?_)
  replace hS:=hS.resolve_left (by decide)
  clear hK K
  refine wpAnyX_oq 14 fun K hK=>?_
  go_wp2_with fail
  ((with_reducible refine (Insert_ent A n cc B k w0.heap.size rows #[.string ckey,.int .i64 0,.string { data:=#[] },.int .i64 0,.slice none 0 0,.slice none 0 0,.slice none 0 0,.int .i64 0] _ O E.one hkn hn20 X2 rfl (all_one rfl) hbv hB0).mono ?_);rintro e w3 ⟨A',n',c',rfl,o3,g3⟩)
  go_wp2_with fail
  have q3:=EMov.own O g3 hB0
  have G3:=blk_other G0 O g3;have C3:=blk_other C0 O g3;have V3:=blk_other V0 O g3
  have E3:Ens w3 (insRows l k ⟨ckey,zeroVa,0⟩) (insRows rows k #[.string ckey,.int .i64 0,.string { data:=#[] },.int .i64 0,.slice none 0 0,.slice none 0 0,.slice none 0 0,.int .i64 0].toList):=(E.fr q3.fr).ins (r:=#[.string ckey,.int .i64 0,.string { data:=#[] },.int .i64 0,.slice none 0 0,.slice none 0 0,.slice none 0 0,.int .i64 0].toList) ⟨none,0,0,none,0,0,none,0,0,rfl,nil_vsl,Tp.none_,Tp.none_,Tp.none_⟩ k
  have N3:=N0.fr T0 q3.fr;have T3:=Tps.fr T0 q3.fr
  have q9:=q0.trans (KMov.e q3)
  refine hK.out _ _ (Or.inr ⟨G3.cell 1,G3.cell 2,C3.cell 1⟩) (fun hS=>?_)
  replace hS:=hS.resolve_left (by decide)
  clear hK K C0 V0 G0 O E N0 T0 q0 X2 bB
  (try clear cG3 fG3);have cG3:=G3.cell;have fG3:=G3.frozen
  refine wpAnyX_ps 15 ?_
  refine wpAnyX_ps 16 ?_
  refine wpAnyX_ps 17 ?_
  refine wpAnyX_oq 18 fun K hK=>?_
  go_wp2_with fail
  have G4:=G3.set' (i:=1) (u:=.slice A' n' c') rfl
  have gr:=grown_setRow_cell w3 g 1 (.slice A' n' c')
  have hgl:=G3.lt
  have hgc:w.heap.size≠g:=fun e=>blk_ne C3 G3 (by decide) e
  have hgv:w.heap.size+1≠g:=fun e=>blk_ne V3 G3 (by decide) e
  have C4:=grown_blk C3 gr hgc
  have V4:=grown_blk V3 gr hgv
  obtain ⟨rows4,O4,E4⟩:StOwn (w3.setCell ⟨g,1,none⟩ (.slice A' n' c')) B A' n' c' (insRows l k ⟨ckey,zeroVa,0⟩):=StOwn.grown ⟨_,o3,E3⟩ G3 gr
  have f4:=Fr.grown G3 gr
  have N4:=N3.fr T3 f4;have T4:=Tps.fr T3 f4
  have q4:=q9.trans (KMov.grownK G3 gr hg (by have:=q9.size;omega))
  have hB4:B≤(w3.setCell ⟨g,1,none⟩ (.slice A' n' c')).heap.size:=by have:=q4.size;omega
  refine hK.out _ _ (Or.inl (by decide)) (fun hS=>?_)
  clear hK K hS cG3 fG3
  refine wpAnyX_done (by kernel_rfl) ?_ _
  obtain ⟨w0,hw0⟩:∃ w0,w0=w3.setCell ⟨g,1,none⟩ (.slice A' n' c'):=⟨_,rfl⟩
  rw [←hw0] at C4 V4 G4 O4 E4 N4 T4 q4 hB4 ⊢
  clear hw0 G3 C3 V3 N3 T3 E3 o3 g3 q3 q9 f4 gr
  have C0:=C4;have V0:=V4;have G0:=G4;have O:=O4;have E:=E4;have N0:=N4;have T0:=T4;have q0:=q4;have hB0:=hB4
  clear C4 V4 G4 O4 E4 N4 T4 q4 hB4
  obtain ⟨l0,hl0⟩:∃ l0,l0=insRows l k ⟨ckey,zeroVa,0⟩:=⟨_,rfl⟩
  rw [←hl0] at E HD
  have hlen:l0.length=l.length+1:=by rw [hl0];exact ins_len _ _ _
  have hkl:k<l0.length:=by omega
  have hnn:l0.length=n':=by rw [E.len];exact O.n_eq.symm
  have hkn:k<n':=by omega
  have hbA:w.heap.size≤w0.heap.size:=by have:=q0.size;omega
  clear hl0 hlen hnn
  go_wp2_with fail
  obtain ⟨b,hb1,hbB,hbl,hbn,hbz,hbc⟩:=O.block (by have:=O.n_eq;omega)
  subst hb1
  have hz1:(0:Int)≤(k:Int):=by omega
  have hz2:(k:Int)<(n':Int):=by omega
  (try clear cG0 fG0);have cG0:=G0.cell;have fG0:=G0.frozen
  go_quiet (fail)
  obtain ⟨wq,hwq⟩:∃ wq,wq=w0.drewN nq:=⟨_,rfl⟩
  rw [←hwq]
  have bq:Below w0.heap.size w0 wq:=by rw [hwq];exact bdrewN (Below.refl _ _) nq
  have hsq:wq.heap.size=w0.heap.size:=by rw [hwq];rfl
  clear hwq hbc hbz cG0 fG0
  replace C0:=C0.below' bq;replace V0:=V0.below' bq;replace G0:=G0.below' bq;replace O:=O.below bq
  replace N0:=N0.bl bq;replace q0:=q0.next hB bq
  replace E:=E.fr (Fr.of bq)
  replace T0:=Tps.fr T0 (Fr.of bq)
  replace hB0:B≤wq.heap.size:=by omega
  obtain ⟨r,hr,hat⟩:=E.at_ (k:=k) hkl
  have hx:l0[k]?=some l0[k]:=List.getElem?_eq_getElem hkl
  generalize l0[k]=x at hat hx
  obtain ⟨xk,xv,xt⟩:=x
  obtain ⟨Z1,y1,d1,Z2,y2,d2,Z3,y3,d3,rfl,-,-⟩:=hat
  simp only [En.cells] at hr
  obtain ⟨b',hb1,-,-,-,hbz,hbc⟩:=O.block (by have:=O.n_eq;omega)
  injection hb1 with hb1
  injection hb1 with hb1
  subst hb1
  have z1:=hbc k _ hr 1 _ rfl;have z2:=hbc k _ hr 2 _ rfl;have z3:=hbc k _ hr 3 _ rfl;have z4:=hbc k _ hr 4 _ rfl
  have z5:=hbc k _ hr 5 _ rfl;have z6:=hbc k _ hr 6 _ rfl;have z7:=hbc k _ hr 7 _ rfl
  have hbg:=own_not O G0
  have hbcm:=own_not O C0
  have hbv:=own_not O V0
  have O6:=O.row6 hr (.int .i64 vk) (.string vt) (.int .i64 vc) (.slice A1 n1 c1) (.slice A2 n2 c2) (.slice A3 n3 c3)
  have gr6:wq.grownBy ((((((wq.setCell ⟨b,k*8+1,none⟩ (.int .i64 vk)).setCell ⟨b,k*8+2,none⟩ (.string vt)).setCell ⟨b,k*8+3,none⟩ (.int .i64 vc)).setCell ⟨b,k*8+4,none⟩ (.slice A1 n1 c1)).setCell ⟨b,k*8+5,none⟩ (.slice A2 n2 c2)).setCell ⟨b,k*8+6,none⟩ (.slice A3 n3 c3)) (some b):=grown_trans (grown_trans (grown_trans (grown_trans (grown_trans (grown_setRow_cell wq b _ _) (grown_setRow_cell _ b _ _)) (grown_setRow_cell _ b _ _)) (grown_setRow_cell _ b _ _)) (grown_setRow_cell _ b _ _)) (grown_setRow_cell _ b _ _)
  have hrl:k<rows4.length:=by have:=O.n_eq;omega
  have hr6:(rows4.set k [.string xk,.int .i64 vk,.string vt,.int .i64 vc,.slice A1 n1 c1,.slice A2 n2 c2,.slice A3 n3 c3,.int .i64 xt])[k]?=some [.string xk,.int .i64 vk,.string vt,.int .i64 vc,.slice A1 n1 c1,.slice A2 n2 c2,.slice A3 n3 c3,.int .i64 xt]:=by rw [List.getElem?_set_self hrl]
  have O7:=O6.row1 hr6 (.int .i64 0)
  rw [List.set_set] at O7
  have gr7:wq.grownBy (((((((wq.setCell ⟨b,k*8+1,none⟩ (.int .i64 vk)).setCell ⟨b,k*8+2,none⟩ (.string vt)).setCell ⟨b,k*8+3,none⟩ (.int .i64 vc)).setCell ⟨b,k*8+4,none⟩ (.slice A1 n1 c1)).setCell ⟨b,k*8+5,none⟩ (.slice A2 n2 c2)).setCell ⟨b,k*8+6,none⟩ (.slice A3 n3 c3)).setCell ⟨b,k*8+7,none⟩ (.int .i64 0)) (some b):=grown_trans gr6 (grown_setRow_cell _ b _ _)
  have q6:=EMov.own O gr6 hB0
  have q7:=EMov.own O gr7 hB0
  have E6:Ens ((((((wq.setCell ⟨b,k*8+1,none⟩ (.int .i64 vk)).setCell ⟨b,k*8+2,none⟩ (.string vt)).setCell ⟨b,k*8+3,none⟩ (.int .i64 vc)).setCell ⟨b,k*8+4,none⟩ (.slice A1 n1 c1)).setCell ⟨b,k*8+5,none⟩ (.slice A2 n2 c2)).setCell ⟨b,k*8+6,none⟩ (.slice A3 n3 c3)) (l0.set k ⟨xk,⟨vk,vt,vc,ps,is_,ss⟩,xt⟩) (rows4.set k [.string xk,.int .i64 vk,.string vt,.int .i64 vc,.slice A1 n1 c1,.slice A2 n2 c2,.slice A3 n3 c3,.int .i64 xt]):=(E.fr q6.fr).set k ⟨A1,n1,c1,A2,n2,c2,A3,n3,c3,rfl,N0.fr T0 q6.fr,T0.fr q6.fr⟩
  have E7:Ens (((((((wq.setCell ⟨b,k*8+1,none⟩ (.int .i64 vk)).setCell ⟨b,k*8+2,none⟩ (.string vt)).setCell ⟨b,k*8+3,none⟩ (.int .i64 vc)).setCell ⟨b,k*8+4,none⟩ (.slice A1 n1 c1)).setCell ⟨b,k*8+5,none⟩ (.slice A2 n2 c2)).setCell ⟨b,k*8+6,none⟩ (.slice A3 n3 c3)).setCell ⟨b,k*8+7,none⟩ (.int .i64 0)) (l0.set k ⟨xk,⟨vk,vt,vc,ps,is_,ss⟩,0⟩) (rows4.set k [.string xk,.int .i64 vk,.string vt,.int .i64 vc,.slice A1 n1 c1,.slice A2 n2 c2,.slice A3 n3 c3,.int .i64 0]):=(E.fr q7.fr).set k ⟨A1,n1,c1,A2,n2,c2,A3,n3,c3,rfl,N0.fr T0 q7.fr,T0.fr q7.fr⟩
  have G6:=blk_other G0 O gr6
  have G7:=blk_other G0 O gr7
  have K6:=hide (And.intro O6 (And.intro E6 (And.intro G6 q6)))
  have K7:=hide (And.intro O7 (And.intro E7 (And.intro G7 q7)))
  have HX:=hide hx
  clear hx hr hr6 hbc E O hrl hbn O6 O7 E6 E7 G6 G7 q6 q7 gr6 gr7 N0 T0 hN hT bq
  (try clear cC0 fC0);have cC0:=C0.cell;have fC0:=C0.frozen;(try clear cV0 fV0);have cV0:=V0.cell;have fV0:=V0.frozen
  clear G0
  by_cases hc1:ck=1
  ·subst hc1
   go_wp2_with fail
   go_end0
   obtain ⟨O7,E7,G7,q7⟩:=K7.out
   exact ⟨rfl,⟨_,_,_,G7,⟨_,O7,by (have hd:=HD.out;rw [HX.out] at hd;simp only [if_true] at hd;rw [hd];exact E7)⟩⟩,q0.trans (KMov.e q7)⟩
  ·have hc1':(ck == 1)=false:=by rw [beq_eq_false_iff_ne];exact hc1
   go_wp2_with fail
   go_end0
   obtain ⟨O6,E6,G6,q6⟩:=K6.out
   exact ⟨rfl,⟨_,_,_,G6,⟨_,O6,by (have hd:=HD.out;rw [HX.out] at hd;simp only [if_neg hc1] at hd;rw [hd];exact E6)⟩⟩,q0.trans (KMov.e q6)⟩
def timedS (now:Int) (l:List En) (k:Nat) (t:Bool) (c:Cmd):List En×Re:=
 if t=false then (l,failR 5) else
 match l[k]? with
 | none=>(l,failR 5)
 | some x=>if c.kind=21 then (l,toldR (max (x.till - now) 0)) else if c.n<1∨1073741824 - now<c.n then (l,failR 2) else (l.set k ⟨x.key,x.val,now+c.n⟩,toldR 0)
def TimedPost (R:List En×Re) (B g k:Nat) (now:Int) (t:Bool) (w:World) (e:Ending) (w':World):Prop:=
 e = .returned (.agg #[.int .i64 R.2.code,.string R.2.text,.int .i64 R.2.n,.slice none 0 0])∧R.2.list=[]∧Kd w' B g now R.1 (k:Int) t∧KMov B w w'
set_option maxRecDepth 100000 in
theorem timed_any (c:Cmd) (B g k:Nat) (now:Int) (t:Bool) (l:List En) (w:World) (h:Kd w B g now l (k:Int) t) (hk:t=true→k<l.length) (hl:l.length≤1048576) (hg:B≤g) (hB:B≤w.heap.size)
  (hnow:0≤now∧now≤1073741824) (htl:∀ x∈l,0≤x.till∧x.till≤1073741824) (hcn : -1099511627776≤c.n∧c.n≤1099511627776) (hck:c.kind=20∨c.kind=21) :
  Calls Tryz.prog 131 #[.pointer (some ⟨g,0,none⟩),.agg #[.int .i64 c.kind,.string c.key,.string c.field,.string c.text,.int .i64 c.n]] w (TimedPost (timedS now l k t c) B g k now t w):=by
 obtain ⟨A,n,cc,G,rows,O,E⟩:=h
 obtain ⟨D,hD⟩:∃ D,D=timedS now l k t c:=⟨_,rfl⟩
 rw [←hD]
 unfold timedS at hD
 obtain ⟨ck,ckey,cf,ct,cn⟩:=c
 simp only at hD hcn hck ⊢
 have HD:=hide hD
 have HCN:=hide hcn;have HNOW:=hide hnow
 clear hD hcn hnow
 have bA:Below w.heap.size w ((w.alloc (.cells #[.int .i64 ck,.string ckey,.string cf,.string ct,.int .i64 cn] 31)).alloc (.cells #[.int .i64 0,.string { data:=#[] },.int .i64 0,.slice none 0 0] 102)):=below_by
 have C0:Blk ((w.alloc (.cells #[.int .i64 ck,.string ckey,.string cf,.string ct,.int .i64 cn] 31)).alloc (.cells #[.int .i64 0,.string { data:=#[] },.int .i64 0,.slice none 0 0] 102)) w.heap.size 31 #[.int .i64 ck,.string ckey,.string cf,.string ct,.int .i64 cn]:=(Blk.new _ _ _).alloc _
 have R0:Blk ((w.alloc (.cells #[.int .i64 ck,.string ckey,.string cf,.string ct,.int .i64 cn] 31)).alloc (.cells #[.int .i64 0,.string { data:=#[] },.int .i64 0,.slice none 0 0] 102)) (w.heap.size+1) 102 #[.int .i64 0,.string { data:=#[] },.int .i64 0,.slice none 0 0]:=Blk.new' _ _ _ (by simp)
 have G0:=G.below' bA
 have O0:=O.below bA
 have E0:=E.fr (Fr.of bA)
 have q0:=KMov.of bA hB
 cases t with
 | false=>
  have bZ:Below w.heap.size w ((w.alloc (.cells #[.int .i64 ck,.string ckey,.string cf,.string ct,.int .i64 cn] 31)).alloc (.cells #[.int .i64 5,.string { data:=#[] },.int .i64 0,.slice none 0 0] 102)):=below_by
  (try clear cG fG);have cG:=G.cell;have fG:=G.frozen
  have hgl:=G.lt
  have hgl1:g<w.heap.size+1:=by omega
  go_enter Tryz.func131,Tryz.ntmps131
  go_wp2_with fail
  refine bodyPost_ret (v:=.agg #[.int .i64 5,.string { data:=#[] },.int .i64 0,.slice none 0 0]) ?_ rfl ?_
  ·simp [results,Tryz.results131,go_sem]
  ·have hd:D=(l,failR 5):=by rw [HD.out];rfl
   rw [hd]
   exact ⟨rfl,rfl,⟨A,n,cc,G.below' bZ,rows,O.below bZ,E.fr (Fr.of bZ)⟩,KMov.of bZ hB⟩
 | true=>
  replace hk:=hk rfl
  have hnl:l.length=n:=by rw [E.len];exact O.n_eq.symm
  have hkn:k<n:=by omega
  clear hnl
  (try clear cG0 fG0);have cG0:=G0.cell;have fG0:=G0.frozen;(try clear cC0 fC0);have cC0:=C0.cell;have fC0:=C0.frozen;(try clear cR0 fR0);have cR0:=R0.cell;have fR0:=R0.frozen
  go_enter Tryz.func131,Tryz.ntmps131
  go_wp2_with fail
  obtain ⟨w0,hw0⟩:∃ w0,w0=((w.alloc (.cells #[.int .i64 ck,.string ckey,.string cf,.string ct,.int .i64 cn] 31)).alloc (.cells #[.int .i64 0,.string { data:=#[] },.int .i64 0,.slice none 0 0] 102)):=⟨_,rfl⟩
  rw [←hw0] at C0 R0 G0 O0 E0 q0 bA ⊢
  clear hw0 cG0 fG0 cC0 fC0 cR0 fR0 G O E
  obtain ⟨b,hb1,hbB,hbl,hbn,hbz,hbc⟩:=O0.block (by have:=O0.n_eq;omega)
  subst hb1
  have hz1:(0:Int)≤(k:Int):=by omega
  have hz2:(k:Int)<(n:Int):=by omega
  (try clear cG0 fG0);have cG0:=G0.cell;have fG0:=G0.frozen
  go_quiet (fail)
  obtain ⟨wq,hwq⟩:∃ wq,wq=w0.drewN nq:=⟨_,rfl⟩
  rw [←hwq]
  have bq:Below w0.heap.size w0 wq:=by rw [hwq];exact bdrewN (Below.refl _ _) nq
  clear hwq hbc hbz hbn cG0 fG0
  replace C0:=C0.below' bq;replace R0:=R0.below' bq;replace G0:=G0.below' bq
  have O:=O0.below bq
  have E:=E0.fr (Fr.of bq)
  replace q0:=q0.next hB bq
  have hB0:B≤wq.heap.size:=by have:=q0.size;omega
  obtain ⟨r,hr,hat⟩:=E.at_ (k:=k) hk
  have hx:l[k]?=some l[k]:=List.getElem?_eq_getElem hk
  have hxt:=htl _ (List.getElem_mem hk)
  generalize l[k]=x at hat hx hxt
  obtain ⟨xk,xv,xt⟩:=x
  have hat0:=hat
  obtain ⟨Z1,y1,d1,Z2,y2,d2,Z3,y3,d3,rfl,-,-⟩:=hat
  simp only [En.cells] at hr
  obtain ⟨b',hb1,-,-,-,hbz,hbc⟩:=O.block (by have:=O.n_eq;omega)
  injection hb1 with hb1
  injection hb1 with hb1
  subst hb1
  have z7:=hbc k _ hr 7 _ rfl
  have hrl:k<rows.length:=by have:=O.n_eq;omega
  simp only at hxt
  have hd0:=HD.out
  rw [hx] at hd0
  simp only [Bool.true_eq_false,if_false] at hd0
  have HD0:=hide hd0
  have HXT:=hide hxt
  clear HD hd0 hxt hx O0 E0 bq hk hkn
  have hrlt:=R0.lt
  have hclt:=C0.lt
  have hglt:=G0.lt
  have hgr:g≠w.heap.size+1:=fun e=>blk_ne G0 R0 (by decide) e
  have hbr:=own_not O R0
  have hbg:=own_not O G0
  have hbcm:=own_not O C0
  (try clear cC0 fC0);have cC0:=C0.cell;have fC0:=C0.frozen
  rcases hck with rfl|rfl
  ·have hcn1:cn<1∨1≤cn:=by omega
   have hsub:IntKind.i64.wrap (1073741824 - now)=1073741824 - now:=IntWalk.i64_in _ (by have:=HNOW.out;omega)
   go_wp2_with fail
   have C1:=C0.drew
   (try clear cC0 fC0);have cC0:=C0.cell;have fC0:=C0.frozen;(try clear cG0 fG0);have cG0:=G0.cell;have fG0:=G0.frozen
   go_cut [50] (fun s wx=>s = .bool (decide (cn<1∨1073741824 - now<cn))∧Below wq.heap.size wq wx)
   case first=>
    by_cases h1:cn<1
    ·have hd1:decide (cn<1)=true:=decide_eq_true h1
     go_quiet (fail)
     go_wp2_with fail
     go_meet
     exact ⟨by simp [h1],below_by⟩
    ·have hd1:decide (cn<1)=false:=decide_eq_false h1
     by_cases h2:1073741824 - now<cn
     ·have hd2:decide (1073741824 - now<cn)=true:=decide_eq_true h2
      go_quiet (fail)
      go_wp2_with fail
      go_meet
      exact ⟨by simp [h2],below_by⟩
     ·have hd2:decide (1073741824 - now<cn)=false:=decide_eq_false h2
      go_quiet (fail)
      go_wp2_with fail
      go_meet
      exact ⟨by simp [h1,h2],below_by⟩
   case rest=>
    obtain ⟨rfl,hbw⟩:=hcut
    replace C0:=C0.below' hbw;replace R0:=R0.below' hbw;replace G0:=G0.below' hbw;replace O:=O.below hbw
    replace E:=E.fr (Fr.of hbw)
    replace q0:=q0.next hB hbw
    replace hat0:=hat0.fr (Fr.of hbw)
    obtain ⟨b',hb1,-,-,-,hbz,hbc⟩:=O.block (by omega)
    injection hb1 with hb1
    injection hb1 with hb1
    subst hb1
    have z7:=hbc k _ hr 7 _ rfl
    clear cC0 fC0 cG0 fG0 C1 hbw
    have hrlt:=R0.lt
    have hglt:=G0.lt
    have hBc:B≤wc.heap.size:=by have:=q0.size;omega
    by_cases hbad:cn<1∨1073741824 - now<cn
    ·have hd:=HD0.out
     rw [if_neg (by decide),if_pos hbad] at hd
     subst hd
     have hdc:decide (cn<1∨1073741824 - now<cn)=true:=decide_eq_true hbad
     rw [hdc]
     clear hdc hbad HD0
     obtain ⟨X9,gr9,-⟩:=whole_reply (.int .i64 2) (.string { data:=#[] }) (.int .i64 0) (.slice none 0 0) R0
     have S9:StOwn _ B (some ⟨b,0,none⟩) n cc l:=StOwn.grown ⟨rows,O,E⟩ R0 gr9
     have G9:=grown_blk G0 gr9 hgr
     (try clear cR0 fR0);have cR0:=R0.cell;have fR0:=R0.frozen
     have HS9:=hide (And.intro S9 (And.intro G9 (And.intro gr9 X9)))
     clear S9 G9 gr9 X9
     go_wp2_with fail
     obtain ⟨S9,G9,gr9,X9⟩:=HS9.out
     have cX9:=X9.cell
     refine bodyPost_ret (v:=.agg #[.int .i64 2,.string { data:=#[] },.int .i64 0,.slice none 0 0]) ?_ rfl ?_
     ·simp [results,Tryz.results131,go_sem,cX9]
     ·exact ⟨rfl,rfl,⟨_,_,_,G9,S9⟩,q0.newblk gr9 (by omega) hB⟩
    ·have hd:=HD0.out
     rw [if_neg (by decide),if_neg hbad] at hd
     subst hd
     have hdc:decide (cn<1∨1073741824 - now<cn)=false:=decide_eq_false hbad
     rw [hdc]
     have hsum:IntKind.i64.wrap (now+cn)=now+cn:=IntWalk.i64_in _ (by have:=HNOW.out;omega)
     clear hdc hbad HD0
     go_wp2_with fail
     refine wp_region_x (l:=[11]) (S:=fun w'=>w'.cell? ⟨g,0,none⟩=some (.int .i64 now)∧w'.cell? ⟨w.heap.size,4,none⟩=some (.int .i64 cn)) (by kernel_rfl) ⟨G0.drew.cell 0,C0.drew.cell 4⟩ (fun hS=>?_)
     refine wpAnyX_tq 0 ?_
     refine wpAnyX_tq 1 ?_
     refine wpAnyX_tq 2 ?_
     refine wpAnyX_tq 3 ?_
     refine wpAnyX_tq 4 ?_
     refine wpAnyX_tq 5 ?_
     refine wpAnyX_tq 6 ?_
     refine wpAnyX_tq 7 ?_
     refine wpAnyX_tq 8 ?_
     (try simp only [hsum])
     refine wpAnyX_ps 9 ?_
     refine wpAnyX_ps 10 ?_
     refine wpAnyX_oq 11 fun K hK=>?_
     go_wp2_with fail
     refine hK.out _ _ (Or.inl (by decide)) (fun hS=>?_)
     clear hK K hS
     refine wpAnyX_done (by kernel_rfl) ?_ _
     have O7:=Own.drew (O.row1 hr (.int .i64 (now+cn)))
     have gr7:wc.grownBy (wc.setCell ⟨b,k*8+7,none⟩ (.int .i64 (now+cn))).drew (some b):=by
      have h:=grown_setRow_cell wc b (k*8+7) (.int .i64 (now+cn))
      exact ⟨h.os,h.tape,h.output,h.size,h.block⟩
     have q7:=EMov.own O gr7 hBc
     have E7:Ens (wc.setCell ⟨b,k*8+7,none⟩ (.int .i64 (now+cn))).drew (l.set k ⟨xk,xv,now+cn⟩) (rows.set k [.string xk,.int .i64 xv.kind,.string xv.text,.int .i64 xv.count,.slice Z1 y1 d1,.slice Z2 y2 d2,.slice Z3 y3 d3,.int .i64 (now+cn)]):=by
      obtain ⟨A1',n1',c1',A2',n2',c2',A3',n3',c3',ha,hb',hc'⟩:=hat0
      have hcells:[Value.string xk,.int .i64 xv.kind,.string xv.text,.int .i64 xv.count,.slice Z1 y1 d1,.slice Z2 y2 d2,.slice Z3 y3 d3,.int .i64 xt]=En.cells ⟨xk,xv,xt⟩ (.slice A1' n1' c1') (.slice A2' n2' c2') (.slice A3' n3' c3'):=ha
      simp only [En.cells,List.cons.injEq,Value.slice.injEq,and_true,true_and] at hcells
      obtain ⟨⟨rfl,rfl,rfl⟩,⟨rfl,rfl,rfl⟩,⟨rfl,rfl,rfl⟩⟩:=hcells
      exact (E.fr q7.fr).set k ⟨_,_,_,_,_,_,_,_,_,rfl,hb'.fr hc' q7.fr,Tps.fr hc' q7.fr⟩
     have G7:=blk_other G0 O gr7
     have R7:=blk_other R0 O gr7
     have q9:=q0.trans (KMov.e q7)
     obtain ⟨w7,hw7⟩:∃ w7,w7=(wc.setCell ⟨b,k*8+7,none⟩ (.int .i64 (now+cn))).drew:=⟨_,rfl⟩
     rw [←hw7] at O7 E7 G7 R7 q9 ⊢
     clear hw7 gr7 q7 O E G0 R0 C0 q0 hbz hbc hr z7 hat0
     obtain ⟨X9,gr9,-⟩:=whole_reply (.int .i64 0) (.string { data:=#[] }) (.int .i64 0) (.slice none 0 0) R7
     have S9:StOwn _ B (some ⟨b,0,none⟩) n cc _:=StOwn.grown ⟨_,O7,E7⟩ R7 gr9
     have G9:=grown_blk G7 gr9 hgr
     have hrlt7:=R7.lt
     (try clear cR7 fR7);have cR7:=R7.cell;have fR7:=R7.frozen
     have HS9:=hide (And.intro S9 (And.intro G9 (And.intro gr9 X9)))
     clear S9 G9 gr9 X9 O7 E7
     go_wp2_with fail
     obtain ⟨S9,G9,gr9,X9⟩:=HS9.out
     have cX9:=X9.cell
     refine bodyPost_ret (v:=.agg #[.int .i64 0,.string { data:=#[] },.int .i64 0,.slice none 0 0]) ?_ rfl ?_
     ·simp [results,Tryz.results131,go_sem,cX9]
     ·exact ⟨rfl,rfl,⟨_,_,_,G9,S9⟩,q9.newblk gr9 (by omega) hB⟩
  ·have hsub:IntKind.i64.wrap (xt - now)=xt - now:=IntWalk.i64_in _ (by have:=HNOW.out;have:=HXT.out;omega)
   have hd:=HD0.out
   rw [if_pos rfl] at hd
   clear HD0
   obtain ⟨m,hm⟩:∃ m,m=max (xt - now) 0:=⟨_,rfl⟩
   rw [←hm] at hd
   subst hd
   have hm2:max (xt - now) 0=m:=hm.symm
   clear hm
   go_wp2_with fail
   refine wp_region_x (l:=[12]) (S:=fun w'=>w'.cell? ⟨b,k*8+7,none⟩=some (.int .i64 xt)∧w'.cell? ⟨g,0,none⟩=some (.int .i64 now)) (by kernel_rfl) ⟨z7,G0.drew.cell 0⟩ (fun hS=>?_)
   refine wpAnyX_tq 0 ?_
   refine wpAnyX_tq 1 ?_
   refine wpAnyX_tq 2 ?_
   refine wpAnyX_tq 3 ?_
   refine wpAnyX_tq 4 ?_
   refine wpAnyX_tq 5 ?_
   refine wpAnyX_tq 6 ?_
   refine wpAnyX_tq 7 ?_
   refine wpAnyX_tq 8 ?_
   refine wpAnyX_tq 9 ?_
   (try simp only [hsub])
   refine wpAnyX_tq 10 ?_
   (try simp only [hm2])
   refine wpAnyX_tq 11 ?_
   (try clear cR0 fR0);have cR0:=R0.cell;have fR0:=R0.frozen
   refine wpAnyX_oq 12 fun K hK=>?_
   go_wp2_with fail
   refine hK.out _ _ (Or.inl (by decide)) (fun hS=>?_)
   clear hK K hS
   refine wpAnyX_done (by kernel_rfl) ?_ _
   go_wp2_with fail
   obtain ⟨X9,gr9,-⟩:=whole_reply (.int .i64 0) (.string { data:=#[] }) (.int .i64 m) (.slice none 0 0) R0
   have S9:StOwn _ B (some ⟨b,0,none⟩) n cc l:=StOwn.grown ⟨rows,O,E⟩ R0 gr9
   have G9:=grown_blk G0 gr9 hgr
   have q9:=q0.newblk gr9 (by omega) hB
   have cX9:=X9.cell
   refine bodyPost_ret (v:=.agg #[.int .i64 0,.string { data:=#[] },.int .i64 m,.slice none 0 0]) ?_ rfl ?_
   ·simp [results,Tryz.results131,go_sem,cX9]
   ·exact ⟨rfl,rfl,⟨_,_,_,G9.drew,S9.dr⟩,q9.trans (KMov.of (Below.refl _ _).drew (by have:=q9.size;omega))⟩
end Go.Proofs.YtgmojjclobkpjaaGreatDoor


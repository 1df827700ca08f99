import Derived.Test.YtgmojjclobkpjaaGreatDoorQBase
import Derived.Test.YtgmojjclobkpjaaGreatDoorQOwn
import Derived.Test.YtgmojjclobkpjaaGreatDoorQHeldX
namespace Go.Proofs.YtgmojjclobkpjaaGreatDoor
set_option linter.all false
set_option maxHeartbeats 32000000
open Go.RowKit
structure Pr where (field text:ByteArray)
structure Sc where (member:ByteArray) (n:Int)
def Pr.cells (x:Pr):List Value:=[.string x.field,.string x.text]
def Sc.cells (x:Sc):List Value:=[.string x.member,.int .i64 x.n]
def pairRows (l:List Pr):List (List Value):=l.map Pr.cells
structure PrAt (w:World) (b o:Nat) (x:Pr):Prop where
 c0:w.cell? ⟨b,o,none⟩=some (.string x.field)
 c1:w.cell? ⟨b,o+1,none⟩=some (.string x.text)
theorem Seg.pair {w:World} {A:Option Addr} {l:List Pr} (h:Seg w 2 A (pairRows l)) {k:Nat} (hk:k<l.length) :
  ∃ b off,A=some ⟨b,off,none⟩∧b<w.heap.size∧PrAt w b (off+k*2) l[k]:=by
 obtain ⟨b,off,e,hb,hc⟩:=h.at_ (i:=k) (by simpa [pairRows] using hk)
 have hc':∀ j u,l[k].cells[j]?=some u→w.cell? ⟨b,off+k*2+j,none⟩=some u:=by
  intro j u hu
  rw [Nat.add_assoc]
  exact hc j u (by simpa [pairRows] using hu)
 exact ⟨b,off,e,hb,hc' 0 _ rfl,hc' 1 _ rfl⟩
theorem pair_one:∀ (l:List Pr),∀ r∈pairRows l,∀ u∈r,u.oneCell'=true:=by
 intro l r hr u hu
 obtain ⟨x,_,rfl⟩:=List.mem_map.1 hr
 simp only [Pr.cells,List.mem_cons,List.not_mem_nil,or_false] at hu
 rcases hu with rfl|rfl <;> rfl
def scoreRows (l:List Sc):List (List Value):=l.map Sc.cells
structure ScAt (w:World) (b o:Nat) (x:Sc):Prop where
 c0:w.cell? ⟨b,o,none⟩=some (.string x.member)
 c1:w.cell? ⟨b,o+1,none⟩=some (.int .i64 x.n)
theorem Seg.score {w:World} {A:Option Addr} {l:List Sc} (h:Seg w 2 A (scoreRows l)) {k:Nat} (hk:k<l.length) :
  ∃ b off,A=some ⟨b,off,none⟩∧b<w.heap.size∧ScAt w b (off+k*2) l[k]:=by
 obtain ⟨b,off,e,hb,hc⟩:=h.at_ (i:=k) (by simpa [scoreRows] using hk)
 have hc':∀ j u,l[k].cells[j]?=some u→w.cell? ⟨b,off+k*2+j,none⟩=some u:=by
  intro j u hu
  rw [Nat.add_assoc]
  exact hc j u (by simpa [scoreRows] using hu)
 exact ⟨b,off,e,hb,hc' 0 _ rfl,hc' 1 _ rfl⟩
theorem score_one:∀ (l:List Sc),∀ r∈scoreRows l,∀ u∈r,u.oneCell'=true:=by
 intro l r hr u hu
 obtain ⟨x,_,rfl⟩:=List.mem_map.1 hr
 simp only [Sc.cells,List.mem_cons,List.not_mem_nil,or_false] at hu
 rcases hu with rfl|rfl <;> rfl
theorem pair_info:(Tryz.prog.info? 137).map (fun i=>(i.zero,i.size,i.bytes))=some (some (.agg #[.string ByteArray.empty,.string ByteArray.empty]),2,32):=by kernel_rfl
theorem Clone_pair (A:Option Addr) (n c:Nat) (rows:List (List Value)) (w:World) (h:Sl w 2 A n c rows) (h1:∀ r∈rows,∀ u∈r,u.oneCell'=true) (hb:n*32≤140737488355328) :
  Calls Tryz.prog 126 #[.slice A n c] w fun e w'=>∃ v,e = .returned v∧Own w' w.heap.size 137 2 v rows∧Below w.heap.size w w':=by
 have hS:=h
 obtain ⟨hl,hnc,hcm,hn0,hs,hr⟩:=h
 have hq:=fun w=>Lib.run_eql_slice_nil (P:=Tryz.prog) w 92 137 A n c 0 0 Tryz.underlying92
 cases A with
 | none=>
  obtain rfl:=hn0 rfl
  obtain rfl:n=0:=by omega
  obtain rfl:=List.eq_nil_of_length_eq_zero hl
  go_enter Tryz.func126,Tryz.ntmps126
  go_wp2_with fail
  go_ret
  exact ⟨_,rfl,Own.nil,below_by⟩
 | some a=>
  by_cases hn:n=0
  ·subst hn
   obtain rfl:=List.eq_nil_of_length_eq_zero hl
   go_enter Tryz.func126,Tryz.ntmps126
   go_wp2_with fail
   go_ret
   exact ⟨_,rfl,Own.empty _ _ _ (Nat.le_refl _),below_by⟩
  ·go_enter Tryz.func126,Tryz.ntmps126
   go_wp2_with (at_builtin;refine wpList_grow rfl _ _ _ rfl Tryz.underlying92 pair_info rfl (by decide) (rows:=[]) rfl rfl (by simp) Seg.nil (by simp) rfl hl hr (hs.alloc _) h1 (by omega) (by omega) (by rw [Nat.zero_add];omega) (by omega) ?_;intro v' w1 hown hb1)
   go_ret
   exact ⟨_,rfl,by simpa using hown.mono (by simp),bstep below_by hb1⟩
theorem score_info:(Tryz.prog.info? 139).map (fun i=>(i.zero,i.size,i.bytes))=some (some (.agg #[.string ByteArray.empty,.int .i64 0]),2,24):=by kernel_rfl
theorem Clone_score (A:Option Addr) (n c:Nat) (rows:List (List Value)) (w:World) (h:Sl w 2 A n c rows) (h1:∀ r∈rows,∀ u∈r,u.oneCell'=true) (hb:n*24≤140737488355328) :
  Calls Tryz.prog 127 #[.slice A n c] w fun e w'=>∃ v,e = .returned v∧Own w' w.heap.size 139 2 v rows∧Below w.heap.size w w':=by
 have hS:=h
 obtain ⟨hl,hnc,hcm,hn0,hs,hr⟩:=h
 have hq:=fun w=>Lib.run_eql_slice_nil (P:=Tryz.prog) w 94 139 A n c 0 0 Tryz.underlying94
 cases A with
 | none=>
  obtain rfl:=hn0 rfl
  obtain rfl:n=0:=by omega
  obtain rfl:=List.eq_nil_of_length_eq_zero hl
  go_enter Tryz.func127,Tryz.ntmps127
  go_wp2_with fail
  go_ret
  exact ⟨_,rfl,Own.nil,below_by⟩
 | some a=>
  by_cases hn:n=0
  ·subst hn
   obtain rfl:=List.eq_nil_of_length_eq_zero hl
   go_enter Tryz.func127,Tryz.ntmps127
   go_wp2_with fail
   go_ret
   exact ⟨_,rfl,Own.empty _ _ _ (Nat.le_refl _),below_by⟩
  ·go_enter Tryz.func127,Tryz.ntmps127
   go_wp2_with (at_builtin;refine wpList_grow rfl _ _ _ rfl Tryz.underlying94 score_info rfl (by decide) (rows:=[]) rfl rfl (by simp) Seg.nil (by simp) rfl hl hr (hs.alloc _) h1 (by omega) (by omega) (by rw [Nat.zero_add];omega) (by omega) ?_;intro v' w1 hown hb1)
   go_ret
   exact ⟨_,rfl,by simpa using hown.mono (by simp),bstep below_by hb1⟩
theorem text_info:(Tryz.prog.info? 9).map (fun i=>(i.zero,i.size,i.bytes))=some (some (.string ByteArray.empty),1,16):=by kernel_rfl
theorem Clone_text (A:Option Addr) (n c:Nat) (rows:List (List Value)) (w:World) (h:Sl w 1 A n c rows) (h1:∀ r∈rows,∀ u∈r,u.oneCell'=true) (hb:n*16≤140737488355328) :
  Calls Tryz.prog 100 #[.slice A n c] w fun e w'=>∃ v,e = .returned v∧Own w' w.heap.size 9 1 v rows∧Below w.heap.size w w':=by
 have hS:=h
 obtain ⟨hl,hnc,hcm,hn0,hs,hr⟩:=h
 have hq:=fun w=>Lib.run_eql_slice_nil (P:=Tryz.prog) w 93 9 A n c 0 0 Tryz.underlying93
 cases A with
 | none=>
  obtain rfl:=hn0 rfl
  obtain rfl:n=0:=by omega
  obtain rfl:=List.eq_nil_of_length_eq_zero hl
  go_enter Tryz.func100,Tryz.ntmps100
  go_wp2_with fail
  go_ret
  exact ⟨_,rfl,Own.nil,below_by⟩
 | some a=>
  by_cases hn:n=0
  ·subst hn
   obtain rfl:=List.eq_nil_of_length_eq_zero hl
   go_enter Tryz.func100,Tryz.ntmps100
   go_wp2_with fail
   go_ret
   exact ⟨_,rfl,Own.empty _ _ _ (Nat.le_refl _),below_by⟩
  ·go_enter Tryz.func100,Tryz.ntmps100
   go_wp2_with (at_builtin;refine wpList_grow rfl _ _ _ rfl Tryz.underlying93 text_info rfl (by decide) (rows:=[]) rfl rfl (by simp) Seg.nil (by simp) rfl hl hr (hs.alloc _) h1 (by omega) (by omega) (by rw [Nat.zero_add];omega) (by omega) ?_;intro v' w1 hown hb1)
   go_ret
   exact ⟨_,rfl,by simpa using hown.mono (by simp),bstep below_by hb1⟩
structure Va where
 kind:Int
 text:ByteArray
 count:Int
 pairs:List Pr
 items:List ByteArray
 scores:List Sc
structure VSl (w:World) (v:Va) (A1:Option Addr) (n1 c1:Nat) (A2:Option Addr) (n2 c2:Nat) (A3:Option Addr) (n3 c3:Nat):Prop where
 p:Sl w 2 A1 n1 c1 (pairRows v.pairs)
 i:Sl w 1 A2 n2 c2 (strRows v.items)
 s:Sl w 2 A3 n3 c3 (scoreRows v.scores)
section
variable {w w':World} {v:Va} {A1 A2 A3:Option Addr} {n1 c1 n2 c2 n3 c3:Nat}
theorem VSl.bl (h:VSl w v A1 n1 c1 A2 n2 c2 A3 n3 c3) (hb:Below w.heap.size w w'):VSl w' v A1 n1 c1 A2 n2 c2 A3 n3 c3:=⟨h.p.below hb,h.i.below hb,h.s.below hb⟩
theorem VSl.al (h:VSl w v A1 n1 c1 A2 n2 c2 A3 n3 c3) (o:Obj):VSl (w.alloc o) v A1 n1 c1 A2 n2 c2 A3 n3 c3:=⟨h.p.alloc o,h.i.alloc o,h.s.alloc o⟩
theorem VSl.dr (h:VSl w v A1 n1 c1 A2 n2 c2 A3 n3 c3):VSl w.drew v A1 n1 c1 A2 n2 c2 A3 n3 c3:=⟨h.p.drew,h.i.drew,h.s.drew⟩
theorem VSl.n1_ (h:VSl w v A1 n1 c1 A2 n2 c2 A3 n3 c3):v.pairs.length=n1:=by have:=h.p.len;simpa [pairRows] using this
theorem VSl.n2_ (h:VSl w v A1 n1 c1 A2 n2 c2 A3 n3 c3):v.items.length=n2:=by have:=h.i.len;simpa [strRows] using this
theorem VSl.n3_ (h:VSl w v A1 n1 c1 A2 n2 c2 A3 n3 c3):v.scores.length=n3:=by have:=h.s.len;simpa [scoreRows] using this
end
theorem str_one:∀ (l:List ByteArray),∀ r∈strRows l,∀ u∈r,u.oneCell'=true:=by
 intro l r hr u hu
 obtain ⟨x,_,rfl⟩:=List.mem_map.1 hr
 simp only [List.mem_cons,List.not_mem_nil,or_false] at hu
 subst hu;rfl
theorem own_far {w:World} {B g size:Nat} {e t:TypeId} {v:Value} {rows:List (List Value)} {cs:Array Value} (h:Own w B e size v rows) (hb:Blk w g t cs) (i:Nat) (u:Value) (hne:t≠e:=by decide):Own (w.setCell ⟨g,i,none⟩ u) B e size v rows:=by
 refine ⟨⟨h.1.1,?_⟩,h.2⟩
 rcases h.1.2 with h1|⟨b,cap,cur,h1,h2,h3,h4⟩
 ·exact .inl h1
 ·refine .inr ⟨b,cap,cur,h1,h2,?_,h4⟩
  have hbg:b≠g:=by
   intro e
   subst e
   unfold Blk at hb
   rw [hb] at h3
   injection h3 with h3
   injection h3 with _ h3
   exact hne h3
  rw [Below.heap_setCell w _ u b (by simpa using hbg)]
  exact h3
theorem own_slice {w:World} {B size:Nat} {e:TypeId} {v:Value} {rows:List (List Value)} (h:Own w B e size v rows):∃ A n c,v = .slice A n c:=by
 obtain ⟨A,c,hv,_⟩:=h.sl
 exact ⟨A,_,c,hv⟩
def VNew (w:World) (B:Nat) (v:Va) (s1 s2 s3:Value):Prop:=
 Own w B 137 2 s1 (pairRows v.pairs)∧Own w B 9 1 s2 (strRows v.items)∧Own w B 139 2 s3 (scoreRows v.scores)
def OwnPost (v:Va) (w:World) (e:Ending) (w':World):Prop:=
 ∃ A1 n1 c1 A2 n2 c2 A3 n3 c3,e = .returned (.agg #[.int .i64 v.kind,.string v.text,.int .i64 v.count,.slice A1 n1 c1,.slice A2 n2 c2,.slice A3 n3 c3])∧VNew w' w.heap.size v (.slice A1 n1 c1) (.slice A2 n2 c2) (.slice A3 n3 c3)∧Below w.heap.size w w'
theorem own_any (v:Va) (A1 A2 A3:Option Addr) (n1 c1 n2 c2 n3 c3:Nat) (w:World) (h:VSl w v A1 n1 c1 A2 n2 c2 A3 n3 c3) (l1:n1≤1048576) (l2:n2≤1048576) (l3:n3≤1048576) :
  Calls Tryz.prog 144 #[.agg #[.int .i64 v.kind,.string v.text,.int .i64 v.count,.slice A1 n1 c1,.slice A2 n2 c2,.slice A3 n3 c3]] w (OwnPost v w):=by
 obtain ⟨kind,text,count,ps,is_,ss⟩:=v
 simp only
 go_enter Tryz.func144,Tryz.ntmps144
 go_wp2_with fail
 have h0:=((h.al (.cells #[.int .i64 kind,.string text,.int .i64 count,.slice A1 n1 c1,.slice A2 n2 c2,.slice A3 n3 c3] 96)).al (.cells #[.int .i64 0,.string { data:=#[] },.int .i64 0,.slice none 0 0,.slice none 0 0,.slice none 0 0] 96)).dr
 have B0:Blk ((w.alloc (.cells #[.int .i64 kind,.string text,.int .i64 count,.slice A1 n1 c1,.slice A2 n2 c2,.slice A3 n3 c3] 96)).alloc (.cells #[.int .i64 0,.string { data:=#[] },.int .i64 0,.slice none 0 0,.slice none 0 0,.slice none 0 0] 96)).drew w.heap.size 96 #[.int .i64 kind,.string text,.int .i64 count,.slice A1 n1 c1,.slice A2 n2 c2,.slice A3 n3 c3]:=(Blk.new _ _ _).alloc _
 have R0:Blk ((w.alloc (.cells #[.int .i64 kind,.string text,.int .i64 count,.slice A1 n1 c1,.slice A2 n2 c2,.slice A3 n3 c3] 96)).alloc (.cells #[.int .i64 0,.string { data:=#[] },.int .i64 0,.slice none 0 0,.slice none 0 0,.slice none 0 0] 96)).drew (w.heap.size+1) 96 #[.int .i64 0,.string { data:=#[] },.int .i64 0,.slice none 0 0,.slice none 0 0,.slice none 0 0]:=Blk.new' _ _ _ (by simp)
 have q0:Below w.heap.size w ((w.alloc (.cells #[.int .i64 kind,.string text,.int .i64 count,.slice A1 n1 c1,.slice A2 n2 c2,.slice A3 n3 c3] 96)).alloc (.cells #[.int .i64 0,.string { data:=#[] },.int .i64 0,.slice none 0 0,.slice none 0 0,.slice none 0 0] 96)).drew:=below_by
 refine wp_region_x (l:=[10,11,12,13,14]) (S:=fun w'=>w'.cell? ⟨w.heap.size,3,none⟩=some (.slice A1 n1 c1)∧w'.cell? ⟨w.heap.size,4,none⟩=some (.slice A2 n2 c2)∧w'.cell? ⟨w.heap.size,5,none⟩=some (.slice A3 n3 c3)) (by kernel_rfl) ⟨B0.cell 3,B0.cell 4,B0.cell 5⟩ (fun hS=>?_)
 refine wpAnyX_tq 0 ?_
 refine wpAnyX_tq 1 ?_
 refine wpAnyX_tq 3 ?_
 refine wpAnyX_tq 4 ?_
 refine wpAnyX_tq 6 ?_
 refine wpAnyX_tq 7 ?_
 refine wpAnyX_oq 2 fun K hK=>?_
 go_wp2_with fail
 ((with_reducible refine (Clone_pair _ _ _ _ _ h0.p (pair_one _) (by omega)).mono ?_);rintro e w1 ⟨s1,rfl,o1,b1⟩)
 obtain ⟨S1,m1,k1,rfl⟩:=own_slice o1
 go_wp2_with fail
 have h1:=h0.bl b1
 have B1:=B0.below' b1
 have R1:=R0.below' b1
 have q1:=bstep q0 b1
 refine hK.out _ _ (Or.inr ⟨B1.cell 3,B1.cell 4,B1.cell 5⟩) (fun hS=>?_)
 replace hS:=hS.resolve_left (by decide)
 clear hK K h0 B0 R0 q0
 refine wpAnyX_tq 9 ?_
 refine wpAnyX_oq 5 fun K hK=>?_
 go_wp2_with fail
 ((with_reducible refine (Clone_text _ _ _ _ _ h1.i (str_one _) (by omega)).mono ?_);rintro e w2 ⟨s2,rfl,o2,b2⟩)
 obtain ⟨S2,m2,k2,rfl⟩:=own_slice o2
 go_wp2_with fail
 have h2:=h1.bl b2
 have B2:=B1.below' b2
 have R2:=R1.below' b2
 have q2:=bstep q1 b2
 replace o1:=(o1.below b2).mono (base':=w.heap.size) (by simp;omega)
 replace o2:=o2.mono (base':=w.heap.size) q1.size
 refine hK.out _ _ (Or.inr ⟨B2.cell 3,B2.cell 4,B2.cell 5⟩) (fun hS=>?_)
 replace hS:=hS.resolve_left (by decide)
 clear hK K h1 B1 R1 q1
 refine wpAnyX_oq 8 fun K hK=>?_
 go_wp2_with fail
 ((with_reducible refine (Clone_score _ _ _ _ _ h2.s (score_one _) (by omega)).mono ?_);rintro e w3 ⟨s3,rfl,o3,b3⟩)
 obtain ⟨S3,m3,k3,rfl⟩:=own_slice o3
 go_wp2_with fail
 have B3:=B2.below' b3
 have R3:=R2.below' b3
 have q3:=bstep q2 b3
 replace o1:=(o1.below b3)
 replace o2:=o2.below b3
 replace o3:=o3.mono (base':=w.heap.size) q2.size
 refine hK.out _ _ (Or.inr ⟨B3.cell 3,B3.cell 4,B3.cell 5⟩) (fun hS=>?_)
 clear hK K hS h2 B2 R2 q2
 (try clear cB3 fB3);have cB3:=B3.cell;have fB3:=B3.frozen
 refine wpAnyX_oq 10 fun K hK=>?_
 go_wp2_with fail
 have B4:=B3.set' (i:=3) (u:=(.slice S1 m1 k1)) rfl
 have R4:=R3.far (p:=⟨w.heap.size,3,none⟩) (by simp) (.slice S1 m1 k1)
 have q4:=bset q3 (p:=⟨w.heap.size,3,none⟩) (Nat.le_refl _) (.slice S1 m1 k1)
 replace o1:=own_far o1 B3 3 (.slice S1 m1 k1)
 replace o2:=own_far o2 B3 3 (.slice S1 m1 k1)
 replace o3:=own_far o3 B3 3 (.slice S1 m1 k1)
 refine hK.out _ _ (Or.inl (by decide)) (fun hS=>?_)
 clear hK K hS cB3 fB3 B3 R3 q3
 refine wpAnyX_pq 11 ?_
 (try clear cB4 fB4);have cB4:=B4.cell;have fB4:=B4.frozen
 refine wpAnyX_oq 12 fun K hK=>?_
 go_wp2_with fail
 have B5:=B4.set' (i:=4) (u:=(.slice S2 m2 k2)) rfl
 have R5:=R4.far (p:=⟨w.heap.size,4,none⟩) (by simp) (.slice S2 m2 k2)
 have q5:=bset q4 (p:=⟨w.heap.size,4,none⟩) (Nat.le_refl _) (.slice S2 m2 k2)
 replace o1:=own_far o1 B4 4 (.slice S2 m2 k2)
 replace o2:=own_far o2 B4 4 (.slice S2 m2 k2)
 replace o3:=own_far o3 B4 4 (.slice S2 m2 k2)
 refine hK.out _ _ (Or.inl (by decide)) (fun hS=>?_)
 clear hK K hS cB4 fB4 B4 R4 q4
 refine wpAnyX_pq 13 ?_
 (try clear cB5 fB5);have cB5:=B5.cell;have fB5:=B5.frozen
 refine wpAnyX_oq 14 fun K hK=>?_
 go_wp2_with fail
 have B6:=B5.set' (i:=5) (u:=(.slice S3 m3 k3)) rfl
 have R6:=R5.far (p:=⟨w.heap.size,5,none⟩) (by simp) (.slice S3 m3 k3)
 have q6:=bset q5 (p:=⟨w.heap.size,5,none⟩) (Nat.le_refl _) (.slice S3 m3 k3)
 replace o1:=own_far o1 B5 5 (.slice S3 m3 k3)
 replace o2:=own_far o2 B5 5 (.slice S3 m3 k3)
 replace o3:=own_far o3 B5 5 (.slice S3 m3 k3)
 refine hK.out _ _ (Or.inl (by decide)) (fun hS=>?_)
 clear hK K hS cB5 fB5 B5 R5 q5
 refine wpAnyX_done (by kernel_rfl) ?_ _
 (try clear cB6 fB6);have cB6:=B6.cell;have fB6:=B6.frozen;(try clear cR6 fR6);have cR6:=R6.cell;have fR6:=R6.frozen
 go_wp2_with fail
 have R7:=R6.set' (i:=0) (u:=.int .i64 kind) rfl
 replace o1:=own_far o1 R6 0 (.int .i64 kind)
 replace o2:=own_far o2 R6 0 (.int .i64 kind)
 replace o3:=own_far o3 R6 0 (.int .i64 kind)
 have R8:=R7.set' (i:=1) (u:=.string text) rfl
 replace o1:=own_far o1 R7 1 (.string text)
 replace o2:=own_far o2 R7 1 (.string text)
 replace o3:=own_far o3 R7 1 (.string text)
 have R9:=R8.set' (i:=2) (u:=.int .i64 count) rfl
 replace o1:=own_far o1 R8 2 (.int .i64 count)
 replace o2:=own_far o2 R8 2 (.int .i64 count)
 replace o3:=own_far o3 R8 2 (.int .i64 count)
 have R10:=R9.set' (i:=3) (u:=.slice S1 m1 k1) rfl
 replace o1:=own_far o1 R9 3 (.slice S1 m1 k1)
 replace o2:=own_far o2 R9 3 (.slice S1 m1 k1)
 replace o3:=own_far o3 R9 3 (.slice S1 m1 k1)
 have R11:=R10.set' (i:=4) (u:=.slice S2 m2 k2) rfl
 replace o1:=own_far o1 R10 4 (.slice S2 m2 k2)
 replace o2:=own_far o2 R10 4 (.slice S2 m2 k2)
 replace o3:=own_far o3 R10 4 (.slice S2 m2 k2)
 have R12:=R11.set' (i:=5) (u:=.slice S3 m3 k3) rfl
 replace o1:=own_far o1 R11 5 (.slice S3 m3 k3)
 replace o2:=own_far o2 R11 5 (.slice S3 m3 k3)
 replace o3:=own_far o3 R11 5 (.slice S3 m3 k3)
 (try clear cR12 fR12);have cR12:=R12.cell;have fR12:=R12.frozen
 refine bodyPost_ret (v:=.agg #[.int .i64 kind,.string text,.int .i64 count,.slice S1 m1 k1,.slice S2 m2 k2,.slice S3 m3 k3]) ?_ rfl ⟨_,_,_,_,_,_,_,_,_,rfl,⟨o1,o2,o3⟩,below_by⟩
 simp [results,Tryz.results144,go_sem, *]
end Go.Proofs.YtgmojjclobkpjaaGreatDoor


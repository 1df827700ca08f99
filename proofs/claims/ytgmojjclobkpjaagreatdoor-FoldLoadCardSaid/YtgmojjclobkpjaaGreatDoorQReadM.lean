import Derived.Test.YtgmojjclobkpjaaGreatDoorQMacP
namespace Go.Proofs.YtgmojjclobkpjaaGreatDoor
set_option linter.all false
set_option maxHeartbeats 32000000
open Go.RowKit
section
variable {W0 w w' w1 w2:World} {g bl base n c size:Nat} {st:RS} {A:Option Addr} {v v':Value} {rows:List (List Value)}
theorem Wrote.grew (h:Wrote w w1 g v v') {r:Option Nat} (hg:w1.grownBy w2 r) (hr:∀ k,r=some k→w.heap.size≤k):Wrote w w2 g v v':=
 ⟨hg.os.trans h.os,hg.tape.trans h.tape,hg.output.trans h.output,Nat.le_trans h.size hg.size,fun b hb hne hv=>(hg.block b (Nat.lt_of_lt_of_le hb h.size) (fun e=>by have:=hr b e.symm;omega)).trans (h.block b hb hne hv),h.row⟩
theorem Rd.grew (h:Rd W0 w g st) {r:Option Nat} (hg:w.grownBy w' r) (hr:∀ k,r=some k→W0.heap.size≤k∧k≠g):Rd W0 w' g st:=by
 have hlt:=h.lt
 obtain ⟨⟨A,n,c,h1,h2⟩,h3,h4,h5⟩:=h
 exact ⟨⟨A,n,c,(hg.block g hlt fun e=>(hr g e.symm).2 rfl).trans h1,h2⟩,h3.grown hg h3.size (fun k hk=>(hr k hk).1),h4,h5⟩
theorem Rd.dr (h:Rd W0 w g st):Rd W0 w.drew g st:=h.below (Below.refl _ w).drew
theorem Blk.wr {b:Nat} {t:TypeId} {cs:Array Value} (h:Blk w b t cs) (q:Wrote w w' g Nil Nil) (hg:b≠g):Blk w' b t cs:=h.wrote q hg (by simp [Nil,Value.ownBlock])
theorem Own.wr {e:TypeId} (h:Own w base e size v rows) (q:Wrote w w' g Nil Nil) (hg:g<base):Own w' base e size v rows:=
 h.keep fun k hk hlt=>q.block k hlt (by omega) (by simp [Nil,Value.ownBlock])
theorem Own.ge {e:TypeId} (h:Own w base e size v rows) {k:Nat} (hk:v.ownBlock=some k):base≤k:=by
 rcases h.form with ⟨rfl,_⟩|⟨b,cap,rfl,h1,_⟩
 ·cases hk
 ·simp only [Value.ownBlock,Option.some.injEq] at hk;omega
theorem Fr.wr (R:Rd W0 w g st) (q:Wrote w w' g Nil Nil):Fr w w':=by
 obtain ⟨⟨A,n,c,hB,_⟩,_,_,_⟩:=R
 exact ⟨q.size,fun k cs hb=>hb.wr q (blk_ne hb hB (by decide)),fun k cs hb=>hb.wr q (blk_ne hb hB (by decide)),fun k cs hb=>hb.wr q (blk_ne hb hB (by decide))⟩
theorem own_grew {e t':TypeId} {b:Nat} {cs:Array Value} (h:Own w base e size v rows) (R:Blk w b t' cs) (hg:w.grownBy w' (some b)) (hne:t'≠e:=by decide):Own w' base e size v rows:=by
 refine ⟨⟨h.1.1,?_⟩,h.2⟩
 rcases h.1.2 with e1|⟨k,cap,cur,e1,e2,e3,e4⟩
 ·exact .inl e1
 ·exact .inr ⟨k,cap,cur,e1,e2,grown_blk (t:=e) e3 hg (blk_ne (t:=e) e3 R (Ne.symm hne)),e4⟩
structure Keep2 (w w':World) (g bl:Nat):Prop where
 os:w'.os=w.os
 tape:w'.tape=w.tape
 output:w'.output=w.output
 size:w.heap.size≤w'.heap.size
 block:∀ b,b<w.heap.size→b≠g→b≠bl→w'.heap[b]?=w.heap[b]?
theorem Keep2.refl (w:World) (g bl:Nat):Keep2 w w g bl:=⟨rfl,rfl,rfl,Nat.le_refl _,fun _ _ _ _=>rfl⟩
theorem Keep2.wr (h:Keep2 w w1 g bl) (q:Wrote w1 w2 g Nil Nil):Keep2 w w2 g bl:=
 ⟨q.os.trans h.os,q.tape.trans h.tape,q.output.trans h.output,Nat.le_trans h.size q.size,fun b hb h1 h2=>(q.block b (Nat.lt_of_lt_of_le hb h.size) h1 (by simp [Nil,Value.ownBlock])).trans (h.block b hb h1 h2)⟩
theorem Keep2.grew (h:Keep2 w w1 g bl) {r:Option Nat} (hg:w1.grownBy w2 r) (hr:∀ k,r=some k→k=bl∨w.heap.size≤k):Keep2 w w2 g bl:=
 ⟨hg.os.trans h.os,hg.tape.trans h.tape,hg.output.trans h.output,Nat.le_trans h.size hg.size,fun b hb h1 h2=>(hg.block b (Nat.lt_of_lt_of_le hb h.size) (fun e=>by rcases hr b e.symm with h3|h3 <;> omega)).trans (h.block b hb h1 h2)⟩
theorem Keep2.below (h:Keep2 w w1 g bl) (hb:Below w1.heap.size w1 w2):Keep2 w w2 g bl:=
 ⟨hb.os.trans h.os,hb.tape.trans h.tape,hb.output.trans h.output,Nat.le_trans h.size hb.size,fun b hl h1 h2=>(hb.block b (Nat.lt_of_lt_of_le hl h.size)).trans (h.block b hl h1 h2)⟩
theorem Keep2.blk (h:Keep2 w w' g bl) {b:Nat} {t:TypeId} {cs:Array Value} (B:Blk w b t cs) (h1:b≠g) (h2:b≠bl):Blk w' b t cs:=(h.block b B.lt h1 h2).trans B
theorem Keep2.wrote {w0:World} (h:Keep2 w w' g bl) (q:Wrote w0 w g Nil Nil) (hb:w0.heap.size≤bl):Wrote w0 w' g Nil Nil:=
 ⟨h.os.trans q.os,h.tape.trans q.tape,h.output.trans q.output,Nat.le_trans q.size h.size,fun b hl h1 h2=>(h.block b (Nat.lt_of_lt_of_le hl q.size) h1 (by omega)).trans (q.block b hl h1 h2),.inl rfl⟩
theorem Keep2.fr {t:TypeId} {cs:Array Value} (h:Keep2 w w' g bl) (R:Rd W0 w g st) (B:Blk w bl t cs) (h1:t≠137:=by decide) (h2:t≠9:=by decide) (h3:t≠139:=by decide):Fr w w':=by
 obtain ⟨⟨A,n,c,hB,_⟩,_,_,_⟩:=R
 exact ⟨h.size,fun k cs hb=>h.blk hb (blk_ne hb hB (by decide)) (blk_ne hb B (Ne.symm h1)),fun k cs hb=>h.blk hb (blk_ne hb hB (by decide)) (blk_ne hb B (Ne.symm h2)),fun k cs hb=>h.blk hb (blk_ne hb hB (by decide)) (blk_ne hb B (Ne.symm h3))⟩
def JS {α:Type} (W0 w1:World) (g bl:Nat) (T:TypeId) (cells:Value→Array Value) (e:TypeId) (size:Nat) (rows:List α→List (List Value)) (w:World) (st:RS) (acc:List α):Prop:=
 Rd W0 w g st∧Keep2 w1 w g bl∧∃ A n c,Blk w bl T (cells (.slice A n c))∧Own w w1.heap.size e size (.slice A n c) (rows acc)
theorem JS.wr {α:Type} {T e:TypeId} {cells:Value→Array Value} {rows:List α→List (List Value)} {st':RS} {acc:List α} (h:JS W0 w1 g bl T cells e size rows w st acc) (R:Rd W0 w' g st') (q:Wrote w w' g Nil Nil) (hg:g<w1.heap.size) (hne:bl≠g):JS W0 w1 g bl T cells e size rows w' st' acc:=by
 obtain ⟨_,k,A,n,c,B,O⟩:=h
 exact ⟨R,k.wr q,A,n,c,B.wr q hne,O.wr q hg⟩
end
theorem each_any {α:Type} (P:RS→α×RS) (W0:World) (g:Nat) (J:World→RS→List α→Prop)
  (hR:∀ w st acc,J w st acc→Rd W0 w g st)
  (hK:∀ w w' st st' acc,J w st acc→Rd W0 w' g st'→Wrote w w' g Nil Nil→J w' st' acc)
  (f:FuncId) (caps:Array Value) (hf:∀ args w,(callFunc f args).run Tryz.prog w = .ok (.enter f args) w)
  (hS:∀ w st acc,acc.length≤255→J w st acc→Calls Tryz.prog f caps w fun e w'=>e = .returned (.tuple #[])∧J w' (P st).2 (acc ++ [(P st).1]))
  (st:RS) (w:World) (h:J w st []) :
  Calls Tryz.prog 75 #[.pointer (some ⟨g,0,none⟩),.func (.func f) #[] caps] w fun e w'=>e = .returned (.tuple #[])∧J w' (eachR P st).2 (eachR P st).1:=by
 have h0:=hR _ _ _ h
 have e1:eachR P st=loopR P (smallR st).1.toNat (smallR st).2 []:=rfl
 obtain ⟨s0,s1,s2⟩:=small_bd h0.u8
 have hT:=rsmall_any W0 g st w h0
 rw [e1]
 clear e1
 generalize smallR st=R at s0 s1 s2 hT
 obtain ⟨n,st1⟩:=R
 simp only at s0 s1 s2 hT ⊢
 obtain ⟨N,rfl⟩:=Int.eq_ofNat_of_zero_le s0
 have HT:=hide hT;have HS:=hide hS;have HK:=hide hK;have HR:=hide hR
 clear hT hS hK hR
 have hN:N<256:=by omega
 rw [show ((N:Nat):Int).toNat=N from rfl]
 obtain ⟨Z,hZ⟩:∃ Z,Hid (Z=loopR P N st1 []):=⟨_,hide rfl⟩
 rw [←hZ.out]
 go_enter Tryz.func75,Tryz.ntmps75
 go_wp2_with fail
 refine HT.out.mono ?_
 rintro e w1 ⟨rfl,hR1,hW1⟩
 have hJ1:=HK.out _ _ _ _ _ h hR1 hW1
 clear h hR1 hW1 h0
 go_wp2_with fail
 go_loopw [4] (fun s4 wr=>∃ k:Nat,k≤N∧s4 = .int .i64 (k:Int)∧∃ st' acc,J wr st' acc∧Hid (loopR P k st' acc=Z)∧acc.length+k≤N) (fun s4 _=>(intOf s4).toNat)
 case atStart=>exact ⟨N,by omega,rfl,st1,[],hJ1,hide hZ.out.symm,by simp⟩
 case round=>
  clear hJ1
  obtain ⟨k,hk,rfl,st',acc,hJ,HQ,hl⟩:=hrel
  have hRd:=HR.out _ _ _ hJ
  obtain ⟨⟨A,n,c,hB,hSl⟩,-,-,-⟩:=hRd
  obtain ⟨l',sh⟩:=st'
  simp only at hB
  (try clear chB fhB);have chB:=hB.cell;have fhB:=hB.frozen
  cases k with
  | zero=>
   go_wp2_with fail
   go_end0
   have:=HQ.out
   simp only [loopR] at this
   rw [←this]
   exact ⟨rfl,hJ⟩
  | succ k=>
   cases sh
   ·go_wp2_with fail
    refine (HS.out _ _ _ (by omega) hJ).mono ?_
    rintro e w2 ⟨rfl,hJ2⟩
    go_wp2_with fail
    go_roundw
    case rel=>exact ⟨k,by omega,by go_num,_,_,hJ2,hide (by rw [←HQ.out];simp [loopR]),by simp;omega⟩
    case measure=>simp [intOf]
   ·go_wp2_with fail
    go_end0
    have:=HQ.out
    simp only [loopR,if_true] at this
    rw [←this]
    exact ⟨rfl,hJ⟩
set_option maxRecDepth 100000 in
theorem texts1_any (W0 w1:World) (g br bl:Nat) (Br1:Blk w1 br 157 #[.pointer (some ⟨g,0,none⟩)]) (hbg:br≠g) (hbb:br≠bl) (hbl:bl≠g) (hW:W0.heap.size≤w1.heap.size) (hWb:W0.heap.size≤bl) (hg1:g<w1.heap.size) (hb1:bl<w1.heap.size)
  (w:World) (st:RS) (acc:List ByteArray) (hl:acc.length≤255) (h:JS W0 w1 g bl 93 (fun s=>#[s]) 9 1 strRows w st acc) :
  Calls Tryz.prog 106 #[.pointer (some ⟨bl,0,none⟩),.pointer (some ⟨br,0,none⟩)] w fun e w'=>e = .returned (.tuple #[])∧JS W0 w1 g bl 93 (fun s=>#[s]) 9 1 strRows w' (textRd st).2 (acc ++ [(textRd st).1]):=by
 obtain ⟨R0,K2,A,n,c,Bl,O⟩:=h
 replace Bl:Blk w bl 93 #[.slice A n c]:=Bl
 have Br:=K2.blk Br1 hbg hbb
 have hbL:=Bl.lt
 have hbR:=Br.lt
 have hsz:=K2.size
 have hrl:(strRows acc).length=acc.length:=by simp [strRows]
 have H0:=fun w' h=>rtext_any W0 g st w' h
 generalize textRd st=X0 at H0 ⊢
 obtain ⟨x0,s0⟩:=X0
 simp only at H0 ⊢
 have HC0:=hide H0
 clear H0
 replace R0:=R0.dr
 replace K2:=K2.below (Below.refl _ w).drew
 replace Bl:=Bl.drew
 replace Br:=Br.drew
 replace O:=Own.drew O
 go_enter Tryz.func106,Tryz.ntmps106
 go_wp2_with fail
 refine wp_region_x (l:=[5]) (S:=fun w'=>w'.cell? ⟨bl,0,none⟩=some (.slice A n c)∧w'.cell? ⟨br,0,none⟩=some (.pointer (some ⟨g,0,none⟩))) (by kernel_rfl) ⟨Bl.cell 0,Br.cell 0⟩ (fun hS=>?_)
 obtain ⟨wd,hwd⟩:∃ wd,wd=w.drew:=⟨_,rfl⟩
 rw [←hwd] at hS R0 K2 Bl Br O ⊢
 have hsd:wd.heap.size=w.heap.size:=by rw [hwd];rfl
 rw [←hsd] at hbL hbR hsz
 clear hwd hsd
 refine wpAnyX_tq 0 ?_
 refine wpAnyX_tq 1 ?_
 refine wpAnyX_oq 2 fun K hK=>?_
 go_wp2_with fail
 refine (HC0.out _ R0).mono ?_
 rintro e c0 ⟨rfl,R1,q⟩
 go_wp2_with fail
 replace K2:=K2.wr q
 replace Bl:=Bl.wr q hbl
 replace Br:=Br.wr q hbg
 replace O:=O.wr q hg1
 replace hbL:=Bl.lt
 replace hsz:=K2.size
 clear R0 q
 have R0:=R1
 clear R1
 refine hK.out _ _ (Or.inr ⟨Bl.cell 0,Br.cell 0⟩) (fun hS=>?_)
 replace hS:=hS.resolve_left (by decide)
 clear hK K
 refine wpAnyX_oq 3 fun K hK=>?_
 go_wp2_with fail
 have B1:=Bl.alloc (.cells #[.string x0] 9)
 have C1:=Br.alloc (.cells #[.string x0] 9)
 have O1:=O.alloc (.cells #[.string x0] 9)
 have R1:=R0.alloc (.cells #[.string x0] 9)
 have K1:=K2.below (show Below c0.heap.size c0 (c0.alloc (.cells #[.string x0] 9)) from below_by)
 refine hK.out _ _ (Or.inr ⟨B1.cell 0,C1.cell 0⟩) (fun hS=>?_)
 replace hS:=hS.resolve_left (by decide)
 clear hK K
 refine wpAnyX_oq 4 fun K hK=>?_
 refine wpList_push_g rfl _ _ _ rfl Tryz.underlying93 text_info rfl (by omega) (by rfl) O (H:=c0.heap.size) rfl (by rfl) (row:=#[.string x0]) rfl (all_one rfl) ?p1 ?p2 ?p3 ?p4
 case p1=>rw [hrl];unfold maxLen;omega
 case p2=>rw [hrl];omega
 case p3=>omega
 case p4=>
 intro A9 n9 c9 w9 O9 gr9
 have B9:=blk_other B1 O1 gr9
 have C9:=blk_other C1 O1 gr9
 have R9:=R1.grew gr9 (fun k hk=>by have:=O1.ge hk;omega)
 have K9:=K1.grew gr9 (fun k hk=>Or.inr (O1.ge hk))
 refine hK.out _ _ (Or.inr ⟨B9.cell 0,C9.cell 0⟩) (fun hS=>?_)
 replace hS:=hS.resolve_left (by decide)
 clear hK K gr9 B1 C1 O1 R1 K1 O Bl Br R0 K2
 clear hS
 (try clear cB9 fB9);have cB9:=B9.cell;have fB9:=B9.frozen
 refine wpAnyX_oq 5 fun K hK=>?_
 go_wp2_with fail
 have gr:=grown_setRow_cell w9 bl 0 (.slice A9 n9 c9)
 have Ba:=B9.set' (i:=0) (u:=.slice A9 n9 c9) rfl
 have Oa:=own_grew O9 B9 gr
 have Ra:=R9.grew gr (fun k hk=>by injection hk with hk;omega)
 have Ka:=K9.grew gr (fun k hk=>by injection hk with hk;omega)
 refine hK.out _ _ (Or.inl (by decide)) (fun hS=>?_)
 clear hK K hS gr cB9 fB9 R9 K9 B9 O9 C9
 refine wpAnyX_done (by kernel_rfl) ?_ _
 go_wp2_with fail
 go_end0
 refine ⟨rfl,Ra,Ka,A9,n9,c9,Ba,?_⟩
 simpa [strRows] using Oa
set_option maxRecDepth 100000 in
theorem value1_any (W0 w1:World) (g br bl:Nat) (k cn:Int) (t:ByteArray) (Br1:Blk w1 br 157 #[.pointer (some ⟨g,0,none⟩)]) (hbg:br≠g) (hbb:br≠bl) (hbl:bl≠g) (hW:W0.heap.size≤w1.heap.size) (hWb:W0.heap.size≤bl) (hg1:g<w1.heap.size) (hb1:bl<w1.heap.size)
  (w:World) (st:RS) (acc:List Pr) (hl:acc.length≤255) (h:JS W0 w1 g bl 96 (fun s=>#[.int .i64 k,.string t,.int .i64 cn,s,.slice none 0 0,.slice none 0 0]) 137 2 pairRows w st acc) :
  Calls Tryz.prog 104 #[.pointer (some ⟨bl,0,none⟩),.pointer (some ⟨br,0,none⟩)] w fun e w'=>e = .returned (.tuple #[])∧JS W0 w1 g bl 96 (fun s=>#[.int .i64 k,.string t,.int .i64 cn,s,.slice none 0 0,.slice none 0 0]) 137 2 pairRows w' (pairR st).2 (acc ++ [(pairR st).1]):=by
 obtain ⟨R0,K2,A,n,c,Bl,O⟩:=h
 replace Bl:Blk w bl 96 #[.int .i64 k,.string t,.int .i64 cn,.slice A n c,.slice none 0 0,.slice none 0 0]:=Bl
 have Br:=K2.blk Br1 hbg hbb
 have hbL:=Bl.lt
 have hbR:=Br.lt
 have hsz:=K2.size
 have hrl:(pairRows acc).length=acc.length:=by simp [pairRows]
 unfold pairR bindR
 simp only [bindR]
 have H0:=fun w' h=>rtext_any W0 g st w' h
 generalize textRd st=X0 at H0 ⊢
 obtain ⟨x0,s0⟩:=X0
 simp only at H0 ⊢
 have HC0:=hide H0
 clear H0
 have H1:=fun w' h=>rtext_any W0 g s0 w' h
 generalize textRd s0=X1 at H1 ⊢
 obtain ⟨x1,s1⟩:=X1
 simp only at H1 ⊢
 have HC1:=hide H1
 clear H1
 replace R0:=R0.dr
 replace K2:=K2.below (Below.refl _ w).drew
 replace Bl:=Bl.drew
 replace Br:=Br.drew
 replace O:=Own.drew O
 go_enter Tryz.func104,Tryz.ntmps104
 go_wp2_with fail
 refine wp_region_x (l:=[10]) (S:=fun w'=>w'.cell? ⟨bl,3,none⟩=some (.slice A n c)∧w'.cell? ⟨br,0,none⟩=some (.pointer (some ⟨g,0,none⟩))) (by kernel_rfl) ⟨Bl.cell 3,Br.cell 0⟩ (fun hS=>?_)
 obtain ⟨wd,hwd⟩:∃ wd,wd=w.drew:=⟨_,rfl⟩
 rw [←hwd] at hS R0 K2 Bl Br O ⊢
 have hsd:wd.heap.size=w.heap.size:=by rw [hwd];rfl
 rw [←hsd] at hbL hbR hsz
 clear hwd hsd
 refine wpAnyX_tq 0 ?_
 refine wpAnyX_tq 1 ?_
 refine wpAnyX_tq 2 ?_
 refine wpAnyX_tq 4 ?_
 refine wpAnyX_oq 3 fun K hK=>?_
 go_wp2_with fail
 refine (HC0.out _ R0).mono ?_
 rintro e c0 ⟨rfl,R1,q⟩
 go_wp2_with fail
 replace K2:=K2.wr q
 replace Bl:=Bl.wr q hbl
 replace Br:=Br.wr q hbg
 replace O:=O.wr q hg1
 replace hbL:=Bl.lt
 replace hsz:=K2.size
 clear R0 q
 have R0:=R1
 clear R1
 refine hK.out _ _ (Or.inr ⟨Bl.cell 3,Br.cell 0⟩) (fun hS=>?_)
 replace hS:=hS.resolve_left (by decide)
 clear hK K
 refine wpAnyX_oq 5 fun K hK=>?_
 go_wp2_with fail
 refine (HC1.out _ R0).mono ?_
 rintro e c1 ⟨rfl,R1,q⟩
 go_wp2_with fail
 replace K2:=K2.wr q
 replace Bl:=Bl.wr q hbl
 replace Br:=Br.wr q hbg
 replace O:=O.wr q hg1
 replace hbL:=Bl.lt
 replace hsz:=K2.size
 clear R0 q
 have R0:=R1
 clear R1
 refine hK.out _ _ (Or.inr ⟨Bl.cell 3,Br.cell 0⟩) (fun hS=>?_)
 replace hS:=hS.resolve_left (by decide)
 clear hK K
 refine wpAnyX_tq 6 ?_
 refine wpAnyX_oq 7 fun K hK=>?_
 go_wp2_with fail
 have B1:=Bl.alloc (.cells #[.string x0,.string x1] 137)
 have C1:=Br.alloc (.cells #[.string x0,.string x1] 137)
 have O1:=O.alloc (.cells #[.string x0,.string x1] 137)
 have R1:=R0.alloc (.cells #[.string x0,.string x1] 137)
 have K1:=K2.below (show Below c1.heap.size c1 (c1.alloc (.cells #[.string x0,.string x1] 137)) from below_by)
 refine hK.out _ _ (Or.inr ⟨B1.cell 3,C1.cell 0⟩) (fun hS=>?_)
 replace hS:=hS.resolve_left (by decide)
 clear hK K
 refine wpAnyX_oq 8 fun K hK=>?_
 refine wpList_push_g rfl _ _ _ rfl Tryz.underlying92 pair_info rfl (by omega) (by rfl) O (H:=c1.heap.size) rfl (by rfl) (row:=#[.string x0,.string x1]) rfl (all_one rfl) ?p1 ?p2 ?p3 ?p4
 case p1=>rw [hrl];unfold maxLen;omega
 case p2=>rw [hrl];omega
 case p3=>omega
 case p4=>
 intro A9 n9 c9 w9 O9 gr9
 have B9:=blk_other B1 O1 gr9
 have C9:=blk_other C1 O1 gr9
 have R9:=R1.grew gr9 (fun k hk=>by have:=O1.ge hk;omega)
 have K9:=K1.grew gr9 (fun k hk=>Or.inr (O1.ge hk))
 refine hK.out _ _ (Or.inr ⟨B9.cell 3,C9.cell 0⟩) (fun hS=>?_)
 replace hS:=hS.resolve_left (by decide)
 clear hK K gr9 B1 C1 O1 R1 K1 O Bl Br R0 K2
 refine wpAnyX_ps 9 ?_
 clear hS
 (try clear cB9 fB9);have cB9:=B9.cell;have fB9:=B9.frozen
 refine wpAnyX_oq 10 fun K hK=>?_
 go_wp2_with fail
 have gr:=grown_setRow_cell w9 bl 3 (.slice A9 n9 c9)
 have Ba:=B9.set' (i:=3) (u:=.slice A9 n9 c9) rfl
 have Oa:=own_grew O9 B9 gr
 have Ra:=R9.grew gr (fun k hk=>by injection hk with hk;omega)
 have Ka:=K9.grew gr (fun k hk=>by injection hk with hk;omega)
 refine hK.out _ _ (Or.inl (by decide)) (fun hS=>?_)
 clear hK K hS gr cB9 fB9 R9 K9 B9 O9 C9
 refine wpAnyX_done (by kernel_rfl) ?_ _
 go_wp2_with fail
 go_end0
 refine ⟨rfl,Ra,Ka,A9,n9,c9,Ba,?_⟩
 simpa [pairRows,Pr.cells] using Oa
set_option maxRecDepth 100000 in
theorem value2_any (W0 w1:World) (g br bl:Nat) (k cn:Int) (t:ByteArray) (P Q:Value) (Br1:Blk w1 br 157 #[.pointer (some ⟨g,0,none⟩)]) (hbg:br≠g) (hbb:br≠bl) (hbl:bl≠g) (hW:W0.heap.size≤w1.heap.size) (hWb:W0.heap.size≤bl) (hg1:g<w1.heap.size) (hb1:bl<w1.heap.size)
  (w:World) (st:RS) (acc:List Sc) (hl:acc.length≤255) (h:JS W0 w1 g bl 96 (fun s=>#[.int .i64 k,.string t,.int .i64 cn,P,Q,s]) 139 2 scoreRows w st acc) :
  Calls Tryz.prog 105 #[.pointer (some ⟨bl,0,none⟩),.pointer (some ⟨br,0,none⟩)] w fun e w'=>e = .returned (.tuple #[])∧JS W0 w1 g bl 96 (fun s=>#[.int .i64 k,.string t,.int .i64 cn,P,Q,s]) 139 2 scoreRows w' (scoreR st).2 (acc ++ [(scoreR st).1]):=by
 obtain ⟨R0,K2,A,n,c,Bl,O⟩:=h
 replace Bl:Blk w bl 96 #[.int .i64 k,.string t,.int .i64 cn,P,Q,.slice A n c]:=Bl
 have Br:=K2.blk Br1 hbg hbb
 have hbL:=Bl.lt
 have hbR:=Br.lt
 have hsz:=K2.size
 have hrl:(scoreRows acc).length=acc.length:=by simp [scoreRows]
 unfold scoreR bindR
 simp only [bindR]
 have H0:=fun w' h=>rtext_any W0 g st w' h
 generalize textRd st=X0 at H0 ⊢
 obtain ⟨x0,s0⟩:=X0
 simp only at H0 ⊢
 have HC0:=hide H0
 clear H0
 have H1:=fun w' h=>rnumber_any W0 g s0 w' h
 generalize numR s0=X1 at H1 ⊢
 obtain ⟨x1,s1⟩:=X1
 simp only at H1 ⊢
 have HC1:=hide H1
 clear H1
 replace R0:=R0.dr
 replace K2:=K2.below (Below.refl _ w).drew
 replace Bl:=Bl.drew
 replace Br:=Br.drew
 replace O:=Own.drew O
 go_enter Tryz.func105,Tryz.ntmps105
 go_wp2_with fail
 refine wp_region_x (l:=[10]) (S:=fun w'=>w'.cell? ⟨bl,5,none⟩=some (.slice A n c)∧w'.cell? ⟨br,0,none⟩=some (.pointer (some ⟨g,0,none⟩))) (by kernel_rfl) ⟨Bl.cell 5,Br.cell 0⟩ (fun hS=>?_)
 obtain ⟨wd,hwd⟩:∃ wd,wd=w.drew:=⟨_,rfl⟩
 rw [←hwd] at hS R0 K2 Bl Br O ⊢
 have hsd:wd.heap.size=w.heap.size:=by rw [hwd];rfl
 rw [←hsd] at hbL hbR hsz
 clear hwd hsd
 refine wpAnyX_tq 0 ?_
 refine wpAnyX_tq 1 ?_
 refine wpAnyX_tq 2 ?_
 refine wpAnyX_tq 4 ?_
 refine wpAnyX_oq 3 fun K hK=>?_
 go_wp2_with fail
 refine (HC0.out _ R0).mono ?_
 rintro e c0 ⟨rfl,R1,q⟩
 go_wp2_with fail
 replace K2:=K2.wr q
 replace Bl:=Bl.wr q hbl
 replace Br:=Br.wr q hbg
 replace O:=O.wr q hg1
 replace hbL:=Bl.lt
 replace hsz:=K2.size
 clear R0 q
 have R0:=R1
 clear R1
 refine hK.out _ _ (Or.inr ⟨Bl.cell 5,Br.cell 0⟩) (fun hS=>?_)
 replace hS:=hS.resolve_left (by decide)
 clear hK K
 refine wpAnyX_oq 5 fun K hK=>?_
 go_wp2_with fail
 refine (HC1.out _ R0).mono ?_
 rintro e c1 ⟨rfl,R1,q⟩
 go_wp2_with fail
 replace K2:=K2.wr q
 replace Bl:=Bl.wr q hbl
 replace Br:=Br.wr q hbg
 replace O:=O.wr q hg1
 replace hbL:=Bl.lt
 replace hsz:=K2.size
 clear R0 q
 have R0:=R1
 clear R1
 refine hK.out _ _ (Or.inr ⟨Bl.cell 5,Br.cell 0⟩) (fun hS=>?_)
 replace hS:=hS.resolve_left (by decide)
 clear hK K
 refine wpAnyX_tq 6 ?_
 refine wpAnyX_oq 7 fun K hK=>?_
 go_wp2_with fail
 have B1:=Bl.alloc (.cells #[.string x0,.int .i64 x1] 139)
 have C1:=Br.alloc (.cells #[.string x0,.int .i64 x1] 139)
 have O1:=O.alloc (.cells #[.string x0,.int .i64 x1] 139)
 have R1:=R0.alloc (.cells #[.string x0,.int .i64 x1] 139)
 have K1:=K2.below (show Below c1.heap.size c1 (c1.alloc (.cells #[.string x0,.int .i64 x1] 139)) from below_by)
 refine hK.out _ _ (Or.inr ⟨B1.cell 5,C1.cell 0⟩) (fun hS=>?_)
 replace hS:=hS.resolve_left (by decide)
 clear hK K
 refine wpAnyX_oq 8 fun K hK=>?_
 refine wpList_push_g rfl _ _ _ rfl Tryz.underlying94 score_info rfl (by omega) (by rfl) O (H:=c1.heap.size) rfl (by rfl) (row:=#[.string x0,.int .i64 x1]) rfl (all_one rfl) ?p1 ?p2 ?p3 ?p4
 case p1=>rw [hrl];unfold maxLen;omega
 case p2=>rw [hrl];omega
 case p3=>omega
 case p4=>
 intro A9 n9 c9 w9 O9 gr9
 have B9:=blk_other B1 O1 gr9
 have C9:=blk_other C1 O1 gr9
 have R9:=R1.grew gr9 (fun k hk=>by have:=O1.ge hk;omega)
 have K9:=K1.grew gr9 (fun k hk=>Or.inr (O1.ge hk))
 refine hK.out _ _ (Or.inr ⟨B9.cell 5,C9.cell 0⟩) (fun hS=>?_)
 replace hS:=hS.resolve_left (by decide)
 clear hK K gr9 B1 C1 O1 R1 K1 O Bl Br R0 K2
 refine wpAnyX_ps 9 ?_
 clear hS
 (try clear cB9 fB9);have cB9:=B9.cell;have fB9:=B9.frozen
 refine wpAnyX_oq 10 fun K hK=>?_
 go_wp2_with fail
 have gr:=grown_setRow_cell w9 bl 5 (.slice A9 n9 c9)
 have Ba:=B9.set' (i:=5) (u:=.slice A9 n9 c9) rfl
 have Oa:=own_grew O9 B9 gr
 have Ra:=R9.grew gr (fun k hk=>by injection hk with hk;omega)
 have Ka:=K9.grew gr (fun k hk=>by injection hk with hk;omega)
 refine hK.out _ _ (Or.inl (by decide)) (fun hS=>?_)
 clear hK K hS gr cB9 fB9 R9 K9 B9 O9 C9
 refine wpAnyX_done (by kernel_rfl) ?_ _
 go_wp2_with fail
 go_end0
 refine ⟨rfl,Ra,Ka,A9,n9,c9,Ba,?_⟩
 simpa [scoreRows,Sc.cells] using Oa
theorem Pend.wr {b:Bool} {base g:Nat} {t:TypeId} {z:Array Value} {x:Value} {w w':World} (h:Pend b base t z x w) (q:Wrote w w' g Nil Nil) (hg:g<base):Pend b base t z x w':=fun hh=>by
 obtain ⟨p,h1,h2,h3⟩:=h hh
 exact ⟨p,h1,h2,h3.wr q (by omega)⟩
structure PaSl (w:World) (Y:Option Addr) (m d:Nat) (l:List Pr):Prop where
 sl:Sl w 2 Y m d (pairRows l)
 tp:Tp w Y 137
theorem PaSl.fr {w w':World} {Y:Option Addr} {m d:Nat} {l:List Pr} (h:PaSl w Y m d l) (f:Fr w w'):PaSl w' Y m d l:=
 ⟨h.sl.kept f.size fun a ha _=>by obtain ⟨cs,hc⟩:=h.tp a ha;exact (f.p _ _ hc).trans hc.symm,fun a ha=>by obtain ⟨cs,hc⟩:=h.tp a ha;exact ⟨cs,f.p _ _ hc⟩⟩
theorem rtexts_any (W0:World) (g:Nat) (st:RS) (w:World) (h:Rd W0 w g st) :
  Calls Tryz.prog 81 #[.pointer (some ⟨g,0,none⟩)] w fun e w'=>∃ Y m d,e = .returned (.slice Y m d)∧TxSl w' Y m d (textsR st).1∧Rd W0 w' g (textsR st).2∧Wrote w w' g Nil Nil:=by
 have hlt:=h.lt
 have hbig:=h.big
 have B1:Blk ((w.alloc (.cells #[.pointer (some ⟨g,0,none⟩)] 157)).alloc (.cells #[.slice none 0 0] 93)) w.heap.size 157 #[.pointer (some ⟨g,0,none⟩)]:=(Blk.new w _ _).alloc _
 have B2:Blk ((w.alloc (.cells #[.pointer (some ⟨g,0,none⟩)] 157)).alloc (.cells #[.slice none 0 0] 93)) (w.heap.size+1) 93 #[.slice none 0 0]:=Blk.new' _ _ _ (by simp)
 have R1:Rd W0 ((w.alloc (.cells #[.pointer (some ⟨g,0,none⟩)] 157)).alloc (.cells #[.slice none 0 0] 93)) g st:=(h.alloc _).alloc _
 have Q1:Wrote w ((w.alloc (.cells #[.pointer (some ⟨g,0,none⟩)] 157)).alloc (.cells #[.slice none 0 0] 93)) g Nil Nil:=(Wrote.refl w g Nil).post below_by
 go_enter Tryz.func81,Tryz.ntmps81
 (try clear cB1 fB1);have cB1:=B1.cell;have fB1:=B1.frozen;(try clear cB2 fB2);have cB2:=B2.cell;have fB2:=B2.frozen
 go_wp2_with fail
 obtain ⟨w1,hw1⟩:∃ w1,w1=((w.alloc (.cells #[.pointer (some ⟨g,0,none⟩)] 157)).alloc (.cells #[.slice none 0 0] 93)):=⟨_,rfl⟩
 rw [←hw1] at B1 B2 R1 Q1 ⊢
 have hb1:=B2.lt
 clear hw1 cB1 fB1 cB2 fB2
 refine (each_any textRd W0 g (JS W0 w1 g (w.heap.size+1) 93 (fun s=>#[s]) 9 1 strRows) (fun _ _ _ h=>h.1) (fun _ _ _ _ _ h R q=>h.wr R q (by omega) (by omega)) 106 #[.pointer (some ⟨w.heap.size+1,0,none⟩),.pointer (some ⟨w.heap.size,0,none⟩)] (run_enter Tryz.func106 (by kernel_rfl) (by kernel_rfl))
  (fun w st acc hl h=>texts1_any W0 w1 g _ _ B1 (by omega) (by omega) (by omega) (by omega) (by omega) (by omega) hb1 w st acc hl h) st w1 ⟨R1,Keep2.refl _ _ _,none,0,0,B2,Own.nil⟩).mono ?_
 rintro e w2 ⟨rfl,R2,K2,A,n,c,C2,O2⟩
 have C2:Blk w2 (w.heap.size+1) 93 #[.slice A n c]:=C2
 have Q2:=K2.wrote Q1 (by omega)
 have hb2:=C2.lt
 (try clear cC2 fC2);have cC2:=C2.cell;have fC2:=C2.frozen
 go_wp2_with fail
 go_ret
 exact ⟨A,n,c,rfl,⟨O2.sl',own_tp O2⟩,R2,Q2⟩
set_option maxRecDepth 100000 in
theorem rvalue_any (W0:World) (g:Nat) (st:RS) (w:World) (h:Rd W0 w g st) :
  Calls Tryz.prog 78 #[.pointer (some ⟨g,0,none⟩)] w fun e w'=>∃ A1 n1 c1 A2 n2 c2 A3 n3 c3,e = .returned (.agg #[.int .i64 (valueR st).1.kind,.string (valueR st).1.text,.int .i64 (valueR st).1.count,.slice A1 n1 c1,.slice A2 n2 c2,.slice A3 n3 c3])∧VSl w' (valueR st).1 A1 n1 c1 A2 n2 c2 A3 n3 c3∧Tps w' A1 A2 A3∧Rd W0 w' g (valueR st).2∧Wrote w w' g Nil Nil:=by
 have hlt:=h.lt
 have hbig:=h.big
 unfold valueR
 simp only [bindR]
 have H0:=fun w' h=>rsmall_any W0 g st w' h
 generalize smallR st=X0 at H0 ⊢
 obtain ⟨x0,s0⟩:=X0
 simp only at H0 ⊢
 have HC0:=hide H0
 clear H0
 have H1:=fun w' h=>rtext_any W0 g s0 w' h
 generalize textRd s0=X1 at H1 ⊢
 obtain ⟨x1,s1⟩:=X1
 simp only at H1 ⊢
 have HC1:=hide H1
 clear H1
 have H2:=fun w' h=>rnumber_any W0 g s1 w' h
 generalize numR s1=X2 at H2 ⊢
 obtain ⟨x2,s2⟩:=X2
 simp only at H2 ⊢
 have HC2:=hide H2
 clear H2
 generalize h3:eachR pairR s2=X3
 obtain ⟨ps,s3⟩:=X3
 simp only
 have HX3:=hide h3
 clear h3
 generalize h4:textsR s3=X4
 obtain ⟨is_,s4⟩:=X4
 simp only
 have HX4:=hide h4
 clear h4
 generalize h5:eachR scoreR s4=X5
 obtain ⟨ss,s5⟩:=X5
 simp only
 have HX5:=hide h5
 clear h5
 have Br0:Blk ((w.alloc (.cells #[.pointer (some ⟨g,0,none⟩)] 157)).alloc (.cells #[.int .i64 0,.string { data:=#[] },.int .i64 0,.slice none 0 0,.slice none 0 0,.slice none 0 0] 96)) w.heap.size 157 #[.pointer (some ⟨g,0,none⟩)]:=(Blk.new w _ _).alloc _
 have Rb0:Blk ((w.alloc (.cells #[.pointer (some ⟨g,0,none⟩)] 157)).alloc (.cells #[.int .i64 0,.string { data:=#[] },.int .i64 0,.slice none 0 0,.slice none 0 0,.slice none 0 0] 96)) (w.heap.size+1) 96 #[.int .i64 0,.string { data:=#[] },.int .i64 0,.slice none 0 0,.slice none 0 0,.slice none 0 0]:=Blk.new' _ _ _ (by simp)
 have R0:Rd W0 ((w.alloc (.cells #[.pointer (some ⟨g,0,none⟩)] 157)).alloc (.cells #[.int .i64 0,.string { data:=#[] },.int .i64 0,.slice none 0 0,.slice none 0 0,.slice none 0 0] 96)) g st:=(h.alloc _).alloc _
 have Q0:Wrote w ((w.alloc (.cells #[.pointer (some ⟨g,0,none⟩)] 157)).alloc (.cells #[.int .i64 0,.string { data:=#[] },.int .i64 0,.slice none 0 0,.slice none 0 0,.slice none 0 0] 96)) g Nil Nil:=(Wrote.refl w g Nil).post below_by
 go_enter Tryz.func78,Tryz.ntmps78
 go_wp2_with fail
 obtain ⟨w1,hw1⟩:∃ w1,w1=((w.alloc (.cells #[.pointer (some ⟨g,0,none⟩)] 157)).alloc (.cells #[.int .i64 0,.string { data:=#[] },.int .i64 0,.slice none 0 0,.slice none 0 0,.slice none 0 0] 96)):=⟨_,rfl⟩
 rw [←hw1] at Br0 Rb0 R0 Q0 ⊢
 have hs1:w1.heap.size=w.heap.size+2:=by rw [hw1];simp
 clear hw1
 have Br:=Br0
 have hbg:w.heap.size≠g:=by omega
 have hgz:g<w1.heap.size:=by omega
 have hsG:∀ st' w',(Rd W0 w' g st'∧Wrote w1 w' g Nil Nil)→w'.cell? ⟨w.heap.size,0,none⟩=some (.pointer (some ⟨g,0,none⟩)):=fun _ _ q=>(Br.wr q.2 hbg).cell 0
 refine wp_region_x (l:=[]) (S:=fun w'=>w'.cell? ⟨w.heap.size,0,none⟩=some (.pointer (some ⟨g,0,none⟩))) (by kernel_rfl) (Br.drew.cell 0) (fun hS=>?_)
 refine wpAnyX_tq 0 ?_
 refine wpAnyX_tq 2 ?_
 refine wpAnyX_tq 4 ?_
 have HSG:=hide hsG
 clear hsG hS
 refine wpX_startA (n:=5+left1 false) (listed:=(fun b_=>#[true,false,true,false,true,false,false,b_,false]) false) (j:=7) (d:=3) (t:=96) (z:=#[.int .i64 0,.string { data:=#[] },.int .i64 0,.slice none 0 0,.slice none 0 0,.slice none 0 0]) ?al1v ?alnv ?allv (fun al1=>?alrv);(case al1v=>exact ⟨⟨_,rfl,rfl,rfl,fun a w=>by simp [go_sem,execOp]⟩⟩);(case alnv=>kernel_rfl);(case allv=>kernel_rfl)
 refine' wpX_phaseA' (f:=4) (i:=1) (L:=(fun b_=>#[true,false,true,false,true,false,false,b_,false])) (L':=(fun b_=>#[true,true,true,false,true,false,false,b_,false])) (base:=w1.heap.size) (G:=(fun w'=>Rd W0 w' g st∧Wrote w1 w' g Nil Nil)) (x:=undef) al1 ?an1v ?al1v ?aa1v ?ar1v ?ai1v ?ag1v ?ae11v ?ae31v ?ap11v (fun w' q=>HSG.out _ w' q) (fun w' o q=>⟨q.1.alloc o,q.2.alloc o⟩) (fun w' q=>q.2.size) ?aw1v ?am1v;(case an1v=>rfl);(case al1v=>rfl);(case aa1v=>rfl);(case ar1v=>kernel_rfl);(case ai1v=>rfl);(case ag1v=>rfl);(case ae11v=>rfl);(case ae31v=>(intros;rfl));(case ap11v=>(intros;rfl))
 (case aw1v=>exact ⟨R0.dr,(Wrote.refl w1 g Nil).post (Below.refl _ w1).drew⟩)
 intro b_ x_ wp0 hG_ hx_ K_ hK_;(try simp only [Act.put,List.setIfInBounds_toArray,List.set_cons_zero,List.set_cons_succ,List.getElem_toArray,List.getElem_cons_zero,List.getElem_cons_succ])
 go_wp2_with fail
 refine (HC0.out _ hG_.1).mono ?_
 rintro e c0 ⟨rfl,Ra,qa⟩
 go_wp2_with fail
 have GA:Rd W0 c0 g s0∧Wrote w1 c0 g Nil Nil:=⟨Ra,hG_.2.trans qa⟩
 have hxA:=hx_.wr qa hgz
 have hSA:=HSG.out _ c0 GA
 refine hK_.out _ _ (Or.inr hSA) ?_
 clear hK_ K_ hG_ hx_ Ra qa
 refine' wpX_phaseB' (f:=3) (i:=3) (L:=(fun b_=>#[true,true,true,false,true,false,false,b_,false])) (L':=(fun b_=>#[true,true,true,true,true,false,false,b_,false])) (base:=w1.heap.size) (G:=(fun w'=>Rd W0 w' g s0∧Wrote w1 w' g Nil Nil)) (b:=b_) (x:=x_) al1 ?an3v ?al3v ?aa3v ?ar3v ?ai3v ?ag3v ?ae13v ?ae33v ?ap13v (fun w' q=>HSG.out _ w' q) (fun w' o q=>⟨q.1.alloc o,q.2.alloc o⟩) (fun w' q=>q.2.size) ?aw3v hxA ?am3v;(case an3v=>rfl);(case al3v=>rfl);(case aa3v=>rfl);(case ar3v=>kernel_rfl);(case ai3v=>rfl);(case ag3v=>rfl);(case ae13v=>rfl);(case ae33v=>(intros;rfl));(case ap13v=>(intros;rfl))
 (case aw3v=>exact GA)
 clear hxA hSA GA
 intro b_ x_ wp1 hG_ hx_ K_ hK_;(try simp only [Act.put,List.setIfInBounds_toArray,List.set_cons_zero,List.set_cons_succ,List.getElem_toArray,List.getElem_cons_zero,List.getElem_cons_succ])
 go_wp2_with fail
 refine (HC1.out _ hG_.1).mono ?_
 rintro e c1 ⟨rfl,Ra,qa⟩
 go_wp2_with fail
 have GA:Rd W0 c1 g s1∧Wrote w1 c1 g Nil Nil:=⟨Ra,hG_.2.trans qa⟩
 have hxA:=hx_.wr qa hgz
 have hSA:=HSG.out _ c1 GA
 refine hK_.out _ _ (Or.inr hSA) ?_
 clear hK_ K_ hG_ hx_ Ra qa
 refine' wpX_phaseB' (f:=2) (i:=5) (L:=(fun b_=>#[true,true,true,true,true,false,false,b_,false])) (L':=(fun b_=>#[true,true,true,true,true,true,false,b_,false])) (base:=w1.heap.size) (G:=(fun w'=>Rd W0 w' g s1∧Wrote w1 w' g Nil Nil)) (b:=b_) (x:=x_) al1 ?an5v ?al5v ?aa5v ?ar5v ?ai5v ?ag5v ?ae15v ?ae35v ?ap15v (fun w' q=>HSG.out _ w' q) (fun w' o q=>⟨q.1.alloc o,q.2.alloc o⟩) (fun w' q=>q.2.size) ?aw5v hxA ?am5v;(case an5v=>rfl);(case al5v=>rfl);(case aa5v=>rfl);(case ar5v=>kernel_rfl);(case ai5v=>rfl);(case ag5v=>rfl);(case ae15v=>rfl);(case ae35v=>(intros;rfl));(case ap15v=>(intros;rfl))
 (case aw5v=>exact GA)
 clear hxA hSA GA
 intro b_ x_ wp2 hG_ hx_ K_ hK_;(try simp only [Act.put,List.setIfInBounds_toArray,List.set_cons_zero,List.set_cons_succ,List.getElem_toArray,List.getElem_cons_zero,List.getElem_cons_succ])
 go_wp2_with fail
 refine (HC2.out _ hG_.1).mono ?_
 rintro e c2 ⟨rfl,Ra,qa⟩
 go_wp2_with fail
 have GA:Rd W0 c2 g s2∧Wrote w1 c2 g Nil Nil:=⟨Ra,hG_.2.trans qa⟩
 have hxA:=hx_.wr qa hgz
 have hSA:=HSG.out _ c2 GA
 refine hK_.out _ _ (Or.inr hSA) ?_
 clear hK_ K_ hG_ hx_ Ra qa
 refine' wpX_takeA' (f:=1) (i:=6) (v:=?xv6v) (L:=(fun b_=>#[true,true,true,true,true,true,false,b_,false])) (L':=(fun b_=>#[true,true,true,true,true,true,true,b_,false])) ?tan6v ?tal6v rfl (by kernel_rfl) ?tar6v (by kernel_rfl) ?tae36v (fun _ _ _ h=>h) (Or.inl ⟨by rfl,?xh6v⟩) ?taw6v ?xr6v;(case tan6v=>rfl);(case tal6v=>rfl);(case tar6v=>kernel_rfl);(case tae36v=>(intros;rfl));(case taw6v=>assumption);(case xh6v=>(intro w hSw;(try dsimp only at hSw);go_simp;(try with_reducible rfl)));(try simp only [Act.put,List.setIfInBounds_toArray,List.set_cons_zero,List.set_cons_succ,List.getElem_toArray,List.getElem_cons_zero,List.getElem_cons_succ])
 refine' wpX_layA' (f:=1) (L:=(fun b_=>#[true,true,true,true,true,true,true,b_,false])) (base:=w1.heap.size) (G:=(fun w'=>Rd W0 w' g s2∧Wrote w1 w' g Nil Nil)) (b:=b_) (x:=x_) al1 ?anLv ?alLv ?aaLv ?arLv ?ae1Lv ?ap1Lv (fun w' q=>HSG.out _ w' q) (fun w' o q=>⟨q.1.alloc o,q.2.alloc o⟩) (fun w' q=>q.2.size) ?awLv hxA ?amLv;(case anLv=>rfl);(case alLv=>rfl);(case aaLv=>rfl);(case arLv=>kernel_rfl);(case ae1Lv=>rfl);(case ap1Lv=>(intros;rfl))
 (case awLv=>exact GA)
 clear hxA hSA GA
 intro vb w7 G7 hv7 V7
 clear al1
 (try clear cV7 fV7);have cV7:=V7.cell;have fV7:=V7.frozen
 refine wpAnyX_oq 8 fun K hK=>?_
 obtain ⟨V8,gr8,sz8⟩:=whole_value (.int .i64 x0) (.string x1) (.int .i64 x2) (.slice none 0 0) (.slice none 0 0) (.slice none 0 0) V7
 have Br8:=grown_blk (Br.wr G7.2 hbg) gr8 (by omega)
 have R8:=G7.1.grew gr8 (fun k hk=>by injection hk with hk;omega)
 have Q8:=G7.2.grew gr8 (fun k hk=>by injection hk with hk;omega)
 go_wp2_with fail
 refine hK.out _ _ (Or.inr (Br8.cell 0)) (fun hS=>?_)
 clear hK K hS cV7 fV7
 refine wpAnyX_done (by kernel_rfl) ?_ _
 obtain ⟨w8,hw8⟩:∃ w8,w8=((((((w7.setCell ⟨vb,0,none⟩ (.int .i64 x0)).setCell ⟨vb,1,none⟩ (.string x1)).setCell ⟨vb,2,none⟩ (.int .i64 x2)).setCell ⟨vb,3,none⟩ (.slice none 0 0)).setCell ⟨vb,4,none⟩ (.slice none 0 0)).setCell ⟨vb,5,none⟩ (.slice none 0 0)):=⟨_,rfl⟩
 rw [←hw8] at V8 Br8 R8 Q8 ⊢
 have Rb8:=grown_blk (Rb0.wr G7.2 (by omega)) gr8 (by omega)
 rw [←hw8] at Rb8
 have Q8:=Q0.trans Q8
 clear hw8 gr8 sz8 V7 G7 Br0 Rb0 R0 Q0 Br HSG HC0 HC1 HC2 h
 have hv8:=V8.lt
 (try clear cBr8 fBr8);have cBr8:=Br8.cell;have fBr8:=Br8.frozen
 go_wp2_with fail
 refine (each_any pairR W0 g (JS W0 w8 g vb 96 (fun s=>#[.int .i64 x0,.string x1,.int .i64 x2,s,.slice none 0 0,.slice none 0 0]) 137 2 pairRows) (fun _ _ _ h=>h.1) (fun _ _ _ _ _ h R q=>h.wr R q (by have:=Q8.size;omega) (by omega)) 104 #[.pointer (some ⟨vb,0,none⟩),.pointer (some ⟨w.heap.size,0,none⟩)] (run_enter Tryz.func104 (by kernel_rfl) (by kernel_rfl))
  (fun w_ st acc hl h=>value1_any W0 w8 g w.heap.size vb x0 x2 x1 Br8 hbg (by omega) (by omega) (by have:=Q8.size;omega) (by omega) (by have:=Q8.size;omega) hv8 w_ st acc hl h) s2 w8 ⟨R8,Keep2.refl _ _ _,none,0,0,V8,Own.nil⟩).mono ?_
 rintro e w9 ⟨rfl,R9,K9,A1,n1,c1,V9,O9⟩
 rw [HX3.out] at R9 O9
 simp only at R9 O9
 have V9:Blk w9 vb 96 #[.int .i64 x0,.string x1,.int .i64 x2,.slice A1 n1 c1,.slice none 0 0,.slice none 0 0]:=V9
 have P9:PaSl w9 A1 n1 c1 ps:=⟨O9.sl',own_tp O9⟩
 have Br9:=K9.blk Br8 hbg (by omega)
 have Rb9:=K9.blk Rb8 (by omega) (by omega)
 have Q9:=K9.wrote Q8 (by omega)
 clear K9 O9 V8 Br8 Rb8 Q8 R8 cBr8 fBr8
 (try clear cBr9 fBr9);have cBr9:=Br9.cell;have fBr9:=Br9.frozen
 go_wp2_with fail
 refine (rtexts_any W0 g s3 w9 R9).mono ?_
 rintro e wa ⟨A2,n2,c2,rfl,Ta,Ra,qa⟩
 rw [HX4.out] at Ta Ra
 simp only at Ta Ra
 have Pa:=P9.fr (Fr.wr R9 qa)
 have Va:=V9.wr qa (by omega)
 have Bra:=Br9.wr qa (by omega)
 have Rba:=Rb9.wr qa (by omega)
 have Qa:=Q9.trans qa
 clear V9 P9 Br9 Rb9 Q9 R9 qa cBr9 fBr9
 (try clear cVa fVa);have cVa:=Va.cell;have fVa:=Va.frozen
 go_upto_region 4 with fail
 have gr:=grown_setRow_cell wa vb 4 (.slice A2 n2 c2)
 have Vc:=Va.set' (i:=4) (u:=.slice A2 n2 c2) rfl
 have Pc:=Pa.fr (Fr.grown Va gr)
 have Tc:=Ta.fr (Fr.grown Va gr)
 have Brc:=grown_blk Bra gr (by omega)
 have Rbc:=grown_blk Rba gr (by omega)
 have Rc:=Ra.grew gr (fun k hk=>by injection hk with hk;omega)
 have Qc:=Qa.grew gr (fun k hk=>by injection hk with hk;omega)
 obtain ⟨wc,hwc⟩:∃ wc,wc=wa.setCell ⟨vb,4,none⟩ (.slice A2 n2 c2):=⟨_,rfl⟩
 rw [←hwc] at Vc Pc Tc Brc Rbc Rc Qc ⊢
 clear hwc gr Va Pa Ta Bra Rba Ra Qa cVa fVa
 have hvc:=Vc.lt
 (try clear cBrc fBrc);have cBrc:=Brc.cell;have fBrc:=Brc.frozen
 go_wp2_with fail
 refine (each_any scoreR W0 g (JS W0 wc g vb 96 (fun s=>#[.int .i64 x0,.string x1,.int .i64 x2,.slice A1 n1 c1,.slice A2 n2 c2,s]) 139 2 scoreRows) (fun _ _ _ h=>h.1) (fun _ _ _ _ _ h R q=>h.wr R q (by have:=Qc.size;omega) (by omega)) 105 #[.pointer (some ⟨vb,0,none⟩),.pointer (some ⟨w.heap.size,0,none⟩)] (run_enter Tryz.func105 (by kernel_rfl) (by kernel_rfl))
  (fun w_ st acc hl h=>value2_any W0 wc g w.heap.size vb x0 x2 x1 (.slice A1 n1 c1) (.slice A2 n2 c2) Brc hbg (by omega) (by omega) (by have:=Qc.size;omega) (by omega) (by have:=Qc.size;omega) hvc w_ st acc hl h) s4 wc ⟨Rc,Keep2.refl _ _ _,none,0,0,Vc,Own.nil⟩).mono ?_
 rintro e wd ⟨rfl,Rd_,Kd,A3,n3,c3,Vd,Od⟩
 rw [HX5.out] at Rd_ Od
 simp only at Rd_ Od
 have Vd:Blk wd vb 96 #[.int .i64 x0,.string x1,.int .i64 x2,.slice A1 n1 c1,.slice A2 n2 c2,.slice A3 n3 c3]:=Vd
 have fd:=Kd.fr Rc Vc
 have Pd:=Pc.fr fd
 have Td:=Tc.fr fd
 have Rbd:=Kd.blk Rbc (by omega) (by omega)
 have Qd:=Kd.wrote Qc (by omega)
 have Nd:VSl wd ⟨x0,x1,x2,ps,is_,ss⟩ A1 n1 c1 A2 n2 c2 A3 n3 c3:=⟨Pd.sl,Td.sl,Od.sl'⟩
 have Tpd:Tps wd A1 A2 A3:=⟨Pd.tp,Td.tp,own_tp Od⟩
 clear Kd fd Pd Td Od Pc Tc Brc Rbc Rc Qc Vc cBrc fBrc
 obtain ⟨Ve,gre,sze⟩:=whole_value (.int .i64 x0) (.string x1) (.int .i64 x2) (.slice A1 n1 c1) (.slice A2 n2 c2) (.slice A3 n3 c3) Rbd
 have fe:=Fr.grown Rbd gre
 have HP:=hide (And.intro (Nd.fr Tpd fe) (And.intro (Tpd.fr fe) (And.intro (Rd_.grew gre (fun k hk=>by injection hk with hk;omega)) (Qd.grew gre (fun k hk=>by injection hk with hk;omega)))))
 have cVe:=hide Ve.cell
 have hvd:=Vd.lt
 have hrd:=Rbd.lt
 clear Ve gre sze fe Nd Tpd Rd_ Qd
 (try clear cVd fVd);have cVd:=Vd.cell;have fVd:=Vd.frozen;(try clear cRbd fRbd);have cRbd:=Rbd.cell;have fRbd:=Rbd.frozen
 go_wp2_with fail
 have cVe:=cVe.out
 refine bodyPost_ret (v:=.agg #[.int .i64 x0,.string x1,.int .i64 x2,.slice A1 n1 c1,.slice A2 n2 c2,.slice A3 n3 c3]) ?_ rfl ⟨A1,n1,c1,A2,n2,c2,A3,n3,c3,rfl,HP.out⟩
 simp [results,Tryz.results78,go_sem,cVe]
end Go.Proofs.YtgmojjclobkpjaaGreatDoor


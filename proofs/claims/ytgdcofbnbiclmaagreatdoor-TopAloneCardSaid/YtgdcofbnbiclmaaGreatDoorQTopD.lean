import Derived.Test.YtgdcofbnbiclmaaGreatDoorQTopC
namespace Go.Proofs.YtgdcofbnbiclmaaGreatDoor
set_option linter.all false
set_option maxHeartbeats 32000000
open Go.RowKit
structure ActAt (w:World) (b o:Nat) (x:ActD):Prop where
 c0:w.cell? ⟨b,o,none⟩=some (.int .i64 x.kind)
 c1:w.cell? ⟨b,o+1,none⟩=some (.int .i64 x.node)
 c2:w.cell? ⟨b,o+2,none⟩=some (.int .i64 x.pick)
 c3:w.cell? ⟨b,o+3,none⟩=some (.int .i64 x.client)
 c4:w.cell? ⟨b,o+4,none⟩=some (.int .i64 x.seq)
 c5:w.cell? ⟨b,o+5,none⟩=some (.int .i64 x.cmd.kind)
 c6:w.cell? ⟨b,o+6,none⟩=some (.string x.cmd.key)
 c7:w.cell? ⟨b,o+7,none⟩=some (.string x.cmd.field)
 c8:w.cell? ⟨b,o+8,none⟩=some (.string x.cmd.text)
 c9:w.cell? ⟨b,o+9,none⟩=some (.int .i64 x.cmd.n)
theorem Sl.act {w:World} {A:Option Addr} {n c:Nat} {l:List ActD} (h:Sl w 10 A n c (actRows l)) {k:Nat} (hk:k<l.length) :
  ∃ b off,A=some ⟨b,off,none⟩∧b<w.heap.size∧ActAt w b (off+k*10) l[k]:=by
 obtain ⟨b,off,e,hb,hc⟩:=h.seg.at_ (i:=k) (by simpa [actRows] using hk)
 have hc':∀ j u,l[k].cells[j]?=some u→w.cell? ⟨b,off+k*10+j,none⟩=some u:=by
  intro j u hu
  rw [Nat.add_assoc]
  exact hc j u (by simpa [actRows] using hu)
 exact ⟨b,off,e,hb,hc' 0 _ rfl,hc' 1 _ rfl,hc' 2 _ rfl,hc' 3 _ rfl,hc' 4 _ rfl,hc' 5 _ rfl,hc' 6 _ rfl,hc' 7 _ rfl,hc' 8 _ rfl,hc' 9 _ rfl⟩
theorem act_len {w:World} {A:Option Addr} {n c:Nat} {l:List ActD} (h:Sl w 10 A n c (actRows l)):l.length=n:=by have:=h.len;simpa [actRows] using this
end Go.Proofs.YtgdcofbnbiclmaaGreatDoor


import Derived.Test.YtgdcofbnbiclmaaGreatDoorQOwn
import Derived.Test.YtgdcofbnbiclmaaGreatDoorQHeldX
import Derived.Lib.Overlaps
import Derived.Deep.RegionLaw
import Derived.Deep.DrawnRows
namespace Go.Proofs.YtgdcofbnbiclmaaGreatDoor
set_option linter.all false
set_option maxHeartbeats 32000000
open Go.RowKit
attribute [local go_sem ↓] Go.wp_at_zero Go.wp_at_succ
def insRows {α:Type} (l:List α) (i:Nat) (x:α):List α:=l.take i ++ [x] ++ l.drop i
def delRows {α:Type} (l:List α) (i:Nat):List α:=l.take i ++ l.drop (i+1)
theorem Seg.far {w w':World} {size g:Nat} {A:Option Addr} {rows:List (List Value)} (h:Seg w size A rows) (hg:w.grownBy w' (some g)) (hne:∀ a,A=some a→a.block≠g):Seg w' size A rows:=fun hn=>by
 obtain ⟨b,off,e,hb,hc⟩:=h hn
 refine ⟨b,off,e,Nat.lt_of_lt_of_le hb hg.size,fun i r hr j u hu=>?_⟩
 have hbg:b≠g:=hne _ e
 rw [World.cell?_of_block (a:=⟨b,off+(i*size+j),none⟩) (hg.block b hb (by simpa using hbg))]
 exact hc i r hr j u hu
theorem Sl.far {w w':World} {size n c g:Nat} {A:Option Addr} {rows:List (List Value)} (h:Sl w size A n c rows) (hg:w.grownBy w' (some g)) (hne:∀ a,A=some a→a.block≠g):Sl w' size A n c rows:=
 ⟨h.len,h.nc,h.cm,h.nil,h.seg.far hg hne,h.row⟩
end Go.Proofs.YtgdcofbnbiclmaaGreatDoor


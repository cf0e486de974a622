/- package tryst: on, of what is valid. -/
import Derived.Test.YtpimbaaahcemhaaGreatBin24
namespace Go.Proofs.YtpimbaaahcemhaaGreat
open Go.RowKit
attribute [local irreducible] wpQuiet
theorem IntsAt.off {W:World} {v:Value} {l:List Int} {base q i:Nat} (h:IntsAt W.heap.size W v l) (hn:NewI base v) (hq:q<base) (u:Value):IntsAt (W.setCell ⟨q,i,none⟩ u).heap.size (W.setCell ⟨q,i,none⟩ u) v l:=by
 obtain⟨hl,a,cap,e,hc⟩:=h
 refine⟨hl,a,cap,e,hc.imp id ?_⟩
 rintro ⟨b,o,e1,hb,hc⟩
 have hb2:base≤b:=hn b o _ _ (by rw [e,e1])
 refine⟨b,o,e1,by rw [World.size_setCell];exact hb,fun j hj=>?_⟩
 have hne:(⟨q,i,none⟩:Addr)≠⟨b,o+j,none⟩:=by intro h;simp only [Addr.mk.injEq] at h;omega
 rw [World.cell?_setCell_other]
 ·exact hc j hj
 ·exact hne
end Go.Proofs.YtpimbaaahcemhaaGreat

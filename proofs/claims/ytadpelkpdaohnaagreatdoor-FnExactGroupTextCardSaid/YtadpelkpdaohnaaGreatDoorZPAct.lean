/- The configuration in force. -/
import Derived.Test.YtadpelkpdaohnaaGreatDoorZPV6
namespace Go.Proofs.YtadpelkpdaohnaaGreatDoor.En
open Go
theorem uX (m:dZ) (e:Int) (h:sW 1048576 m) (hv:fk m=some (true,())): ∃c b,i8 m e=some (c,b,())/\jc m e=some (c,b,())/\gE maxLen c/\(b=n6 e 1 (m.configs.length:Int))/\(b=true->eg c=some (true,())/\c.epoch=e)/\(b=false->c=⟨0,0,[],[]⟩):=by
 obtain⟨b,m1,m2⟩:=masterLog m (kA h);rw[hv] at m1;simp only[ae,al,and_true] at m1;subst m1;obtain⟨f1,_,_⟩:=xN (kA h) hv;have zero:gE maxLen ⟨0,0,[],[]⟩:=⟨bi _,bi _⟩
 have hl:=h.1;unfold i8 jc;simp only[hv,m2,pv,qw,af,iJ,eu];cases hw:n6 e 1 (m.configs.length:Int) with
 |false=>exact⟨_,_,rfl,rfl,zero,rfl,nofun,fun _=>rfl⟩
 |true=>
  have hw:=it.1 hw;simp only[eu];rw[fQ (n:=e-1) (by omega) (by omega)];have hlt: (e-1).toNat<m.configs.length:=by omega
  have hk:=h.2 _ (bF hlt)
  have copy: ∀c:dM,gE 1048576 c->mc c=some (c,())/\iq c=some (c,()):=by intro c hc;unfold mc iq;simp only[bA];rw[eL (jl hc.1),eL (jl hc.2)];exact⟨rfl,rfl⟩
  rw[eL (by omega),eL (by omega),ah hlt];simp only[af,(copy _ hk).1,(copy _ hk).2];refine⟨_,_,rfl,rfl,jd hk,rfl,fun _=>⟨(f1 _ hlt).1,?_⟩,nofun⟩;rw[(f1 _ hlt).2];omega
theorem oh (x:ek) (ok:ol 1048576 x) (hv:eW x=some (true,())): ∃c b,fr x.master=some (c,b,())/\fM x.master=some (c,b,())/\gE maxLen c/\(b=decide (x.master.activated>0))/\(b=true->eg c=some (true,())/\c.epoch=x.master.activated)/\(b=false->c=⟨0,0,[],[]⟩):=by
 have vc:=xO ok hv;obtain⟨_,f2,f3⟩:=xN (kA ok.2.2.1) vc.ml;obtain⟨c,b,c1,c2,c3,c4,c5,c6⟩:=uX x.master x.master.activated ok.2.2.1 vc.ml;unfold fr fM;rw[c1,c2];refine⟨c,b,rfl,rfl,c3,?_,c5,c6⟩;rw[c4];unfold n6;rw[decide_eq_true f3,c7];by_cases h:x.master.activated>0
 ·rw[decide_eq_true h,decide_eq_true (by omega)]
 ·rw[decide_eq_false h,decide_eq_false (by omega)]
end Go.Proofs.YtadpelkpdaohnaaGreatDoor.En

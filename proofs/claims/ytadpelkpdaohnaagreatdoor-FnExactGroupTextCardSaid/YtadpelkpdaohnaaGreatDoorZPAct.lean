/- The configuration in force. -/
import Derived.Test.YtadpelkpdaohnaaGreatDoorZPV6
namespace Go.Proofs.YtadpelkpdaohnaaGreatDoor.En
open Go
theorem vW (m:ec) (e:Int) (h:tY 1048576 m) (hv:ft m=some (true,())): ∃c b,jn m e=some (c,b,())/\jr m e=some (c,b,())/\gX maxLen c/\(b=oO e 1 (m.configs.length:Int))/\(b=true->ej c=some (true,())/\c.epoch=e)/\(b=false->c=⟨0,0,[],[]⟩):=by
 obtain⟨b,m1,m2⟩:=masterLog m (k9 h);rw[hv] at m1;simp only[ae,al,and_true] at m1;subst m1;obtain⟨f1,_,_⟩:=zf (k9 h) hv;have zero:gX maxLen ⟨0,0,[],[]⟩:=⟨ba _,ba _⟩
 have hl:=h.1;unfold jn jr;simp only[hv,m2,qg,rk,af,i5,ey];cases hw:oO e 1 (m.configs.length:Int) with
 |false=>exact⟨_,_,rfl,rfl,zero,rfl,nofun,fun _=>rfl⟩
 |true=>
  have hw:=iP.1 hw;simp only[ey];rw[fY (n:=e-1) (by omega) (by omega)];have hlt: (e-1).toNat<m.configs.length:=by omega
  have hk:=h.2 _ (bF hlt)
  have copy: ∀c:dM,gX 1048576 c->mQ c=some (c,())/\iM c=some (c,()):=by intro c hc;unfold mQ iM;simp only[bB];rw[eP (jG hc.1),eP (jG hc.2)];exact⟨rfl,rfl⟩
  rw[eP (by omega),eP (by omega),ah hlt];simp only[af,(copy _ hk).1,(copy _ hk).2];refine⟨_,_,rfl,rfl,jw hk,rfl,fun _=>⟨(f1 _ hlt).1,?_⟩,nofun⟩;rw[(f1 _ hlt).2];omega
theorem o4 (x:dX) (ok:o5 1048576 x) (hv:fb x=some (true,())): ∃c b,fy x.master=some (c,b,())/\fD x.master=some (c,b,())/\gX maxLen c/\(b=decide (x.master.activated>0))/\(b=true->ej c=some (true,())/\c.epoch=x.master.activated)/\(b=false->c=⟨0,0,[],[]⟩):=by
 have vc:=zg ok hv;obtain⟨_,f2,f3⟩:=zf (k9 ok.2.2.1) vc.ml;obtain⟨c,b,c1,c2,c3,c4,c5,c6⟩:=vW x.master x.master.activated ok.2.2.1 vc.ml;unfold fy fD;rw[c1,c2];refine⟨c,b,rfl,rfl,c3,?_,c5,c6⟩;rw[c4];unfold oO;rw[decide_eq_true f3,c7];by_cases h:x.master.activated>0
 ·rw[decide_eq_true h,decide_eq_true (by omega)]
 ·rw[decide_eq_false h,decide_eq_false (by omega)]
end Go.Proofs.YtadpelkpdaohnaaGreatDoor.En

/- The configuration in force. -/
import Derived.Test.YtjnleglhcppgcaaGreatZPV6
namespace Go.Proofs.YtjnleglhcppgcaaGreat.En
open Go
theorem wx (m:dY) (e:Int) (h:uF 1048576 m) (hv:fj m=some (true,())): ∃c b,ko m e=some (c,b,())/\lE m e=some (c,b,())/\gK maxLen c/\(b=kE e 1 (m.configs.length:Int))/\(b=true->eC c=some (true,())/\c.epoch=e)/\(b=false->c=⟨0,0,[],[]⟩):=by
 obtain⟨b,m1,m2⟩:=masterLog m (j5 h);rw[hv] at m1;simp only[af,an,and_true] at m1;subst m1;obtain⟨f1,_,_⟩:=zK (j5 h) hv;have zero:gK maxLen ⟨0,0,[],[]⟩:=⟨aF _,aF _⟩
 have hl:=h.1;unfold ko lE;simp only[hv,m2,lV,nX,ae,fg,eb];cases hw:kE e 1 (m.configs.length:Int) with
 |false=>exact⟨_,_,rfl,rfl,zero,rfl,nofun,fun _=>rfl⟩
 |true=>
  have hw:=fB.1 hw;simp only[eb];rw[eK (n:=e-1) (by omega) (by omega)];have hlt: (e-1).toNat<m.configs.length:=by omega
  have hk:=h.2 _ (aW hlt)
  have copy: ∀c:dW,gK 1048576 c->j9 c=some (c,())/\gm c=some (c,()):=by intro c hc;unfold j9 gm;simp only[bi];rw[fL (jC hc.1),fL (jC hc.2)];exact⟨rfl,rfl⟩
  rw[fL (by omega),fL (by omega),ah hlt];simp only[ae,(copy _ hk).1,(copy _ hk).2];refine⟨_,_,rfl,rfl,gQ hk,rfl,fun _=>⟨(f1 _ hlt).1,?_⟩,nofun⟩;rw[(f1 _ hlt).2];omega
theorem qJ (x:dT) (ok:iq 1048576 x) (hv:eg x=some (true,())): ∃c b,fD x.master=some (c,b,())/\fi x.master=some (c,b,())/\gK maxLen c/\(b=decide (x.master.activated>0))/\(b=true->eC c=some (true,())/\c.epoch=x.master.activated)/\(b=false->c=⟨0,0,[],[]⟩):=by
 have vc:=kh ok hv;obtain⟨_,f2,f3⟩:=zK (j5 ok.2.2.1) vc.ml;obtain⟨c,b,c1,c2,c3,c4,c5,c6⟩:=wx x.master x.master.activated ok.2.2.1 vc.ml;unfold fD fi;rw[c1,c2];refine⟨c,b,rfl,rfl,c3,?_,c5,c6⟩;rw[c4];unfold kE;rw[decide_eq_true f3,dk];by_cases h:x.master.activated>0
 ·rw[decide_eq_true h,decide_eq_true (by omega)]
 ·rw[decide_eq_false h,decide_eq_false (by omega)]
end Go.Proofs.YtjnleglhcppgcaaGreat.En

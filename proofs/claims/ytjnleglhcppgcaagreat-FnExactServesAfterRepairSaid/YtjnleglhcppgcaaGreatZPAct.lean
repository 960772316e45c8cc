/- The configuration in force. -/
import Derived.Test.YtjnleglhcppgcaaGreatZPV6
namespace Go.Proofs.YtjnleglhcppgcaaGreat.En
open Go
theorem yF (m:ev) (e:Int) (h:wL 1048576 m) (hv:fL m=some (true,())): ∃c b,lA m e=some (c,b,())/\mE m e=some (c,b,())/\iH maxLen c/\(b=je e 1 (m.configs.length:Int))/\(b=true->eL c=some (true,())/\c.epoch=e)/\(b=false->c=⟨0,0,[],[]⟩):=by
 obtain⟨b,m1,m2⟩:=masterLog m (k9 h);rw[hv] at m1;simp only[af,an,and_true] at m1;subst m1;obtain⟨f1,_,_⟩:=BL (k9 h) hv;have zero:iH maxLen ⟨0,0,[],[]⟩:=⟨aI _,aI _⟩
 have hl:=h.1;unfold lA mE;simp only[hv,m2,kg,mG,ae,fi,en];cases hw:je e 1 (m.configs.length:Int) with
 |false=>exact⟨_,_,rfl,rfl,zero,rfl,nofun,fun _=>rfl⟩
 |true=>
  have hw:=fK.1 hw;simp only[en];rw[fP (n:=e-1) (by omega) (by omega)];have hlt: (e-1).toNat<m.configs.length:=by omega
  have hk:=h.2 _ (aV hlt)
  have copy: ∀c:ej,iH 1048576 c->lS c=some (c,())/\hO c=some (c,()):=by intro c hc;unfold lS hO;simp only[bo];rw[fB (kA hc.1),fB (kA hc.2)];exact⟨rfl,rfl⟩
  rw[fB (by omega),fB (by omega),ah hlt];simp only[ae,(copy _ hk).1,(copy _ hk).2];refine⟨_,_,rfl,rfl,fY hk,rfl,fun _=>⟨(f1 _ hlt).1,?_⟩,nofun⟩;rw[(f1 _ hlt).2];omega
theorem sE (x:eg) (ok:gX 1048576 x) (hv:eA x=some (true,())): ∃c b,gg x.master=some (c,b,())/\fI x.master=some (c,b,())/\iH maxLen c/\(b=decide (x.master.activated>0))/\(b=true->eL c=some (true,())/\c.epoch=x.master.activated)/\(b=false->c=⟨0,0,[],[]⟩):=by
 have vc:=jc ok hv;obtain⟨_,f2,f3⟩:=BL (k9 ok.2.2.1) vc.ml;obtain⟨c,b,c1,c2,c3,c4,c5,c6⟩:=yF x.master x.master.activated ok.2.2.1 vc.ml;unfold gg fI;rw[c1,c2];refine⟨c,b,rfl,rfl,c3,?_,c5,c6⟩;rw[c4];unfold je;rw[decide_eq_true f3,dC];by_cases h:x.master.activated>0
 ·rw[decide_eq_true h,decide_eq_true (by omega)]
 ·rw[decide_eq_false h,decide_eq_false (by omega)]
end Go.Proofs.YtjnleglhcppgcaaGreat.En

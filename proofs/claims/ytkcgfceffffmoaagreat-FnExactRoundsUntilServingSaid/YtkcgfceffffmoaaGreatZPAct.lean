/- The configuration in force. -/
import Derived.Test.YtkcgfceffffmoaaGreatZPV6
namespace Go.Proofs.YtkcgfceffffmoaaGreat.En
open Go
theorem MM (m:ei) (e:Int) (h:JQ 1048576 m) (hv:ib m=some (true,())): ∃ c b,oZ m e=some (c,b,())/\qj m e=some (c,b,())/\nm maxLen c/\(b=sP e 1 (m.configs.length:Int))/\(b=true->fI c=some (true,())/\c.epoch=e)/\(b=false->c=⟨0,0,[],[]⟩):=by
 obtain⟨b,m1,m2⟩:=masterLog m (q9 h);rw [hv] at m1;simp only [af,aq,and_true] at m1;subst m1;obtain⟨f1,_,_⟩:=SX (q9 h) hv;have zero:nm maxLen ⟨0,0,[],[]⟩:=⟨aK _,aK _⟩
 have hl:=h.1;unfold oZ Eb qj Eg;simp only [hv,m2,vk,z6,ae,iq,ew];cases hw:sP e 1 (m.configs.length:Int) with
 | false=>exact⟨_,_,rfl,rfl,zero,rfl,nofun,fun _=>rfl⟩
 | true=>
   have hw:=jD.1 hw;simp only [ew];rw [iY (n:=e - 1) (by omega) (by omega)];have hlt: (e - 1).toNat < m.configs.length:=by omega
   have hk:=h.2 _ (bc hlt)
   have copy: ∀ c:dW,nm 1048576 c->o9 c=some (c,())/\jz c=some (c,()):=by
    intro c hc;unfold o9 FI jz vC;simp only [bq];rw [jT (qA hc.1),jT (qA hc.2)];exact⟨rfl,rfl⟩
   rw [jT (by omega),jT (by omega),ai hlt];simp only [ae,(copy _ hk).1,(copy _ hk).2];refine⟨_,_,rfl,rfl,mr hk,rfl,fun _=>⟨(f1 _ hlt).1,?_⟩,nofun⟩;rw [(f1 _ hlt).2];omega
theorem EI (x:dV) (ok:pg 1048576 x) (hv:eC x=some (true,())): ∃ c b,iw x.master=some (c,b,())/\gx x.master=some (c,b,())/\nm maxLen c/\(b=decide (x.master.activated > 0))/\(b=true->fI c=some (true,())/\c.epoch=x.master.activated)/\(b=false->c=⟨0,0,[],[]⟩):=by
 have vc:=rU ok hv;obtain⟨_,f2,f3⟩:=SX (q9 ok.2.2.1) vc.ml;obtain⟨c,b,c1,c2,c3,c4,c5,c6⟩:=MM x.master x.master.activated ok.2.2.1 vc.ml;unfold iw s6 gx tE;rw [c1,c2];refine⟨c,b,rfl,rfl,c3,?_,c5,c6⟩;rw [c4];unfold sP;rw [decide_eq_true f3,dh];by_cases h:x.master.activated > 0
 ·rw [decide_eq_true h,decide_eq_true (by omega)]
 ·rw [decide_eq_false h,decide_eq_false (by omega)]
end Go.Proofs.YtkcgfceffffmoaaGreat.En

/- The configuration in force. -/
import Derived.Test.YtkcgfceffffmoaaGreatZPV6
namespace Go.Proofs.YtkcgfceffffmoaaGreat.En
open Go
theorem EL (m:aw) (e:Int) (h:Cj 1048576 m) (hv:dx m=some (true,())): ∃ c b,iT m e=some (c,b,())∧iX m e=some (c,b,())∧hM maxLen c∧(b=tL e 1 (m.configs.length:Int))∧(b=true→cb c=some (true,())∧c.epoch=e)∧(b=false→c=⟨0,0,[],[]⟩):=by
 obtain⟨b,m1,m2⟩:=masterLog m (pM h)
 rw [hv] at m1
 simp only [Option.some.injEq,Prod.mk.injEq,and_true] at m1
 subst m1
 obtain⟨f1,_,_⟩:=MF (pM h) hv
 have zero:hM maxLen ⟨0,0,[],[]⟩:=⟨Nat.zero_le _,Nat.zero_le _⟩
 have hl:=h.1
 unfold iT na iX nh
 simp only [hv,m2,vw,yS,Option.bind_some,oC,cY]
 cases hw:tL e 1 (m.configs.length:Int) with
 | false=>exact⟨_,_,rfl,rfl,zero,rfl,nofun,fun _=>rfl⟩
 | true=>
   have hw:=lM.1 hw
   simp only [cY]
   rw [eW (n:=e - 1) (by omega) (by omega)]
   have hlt: (e - 1).toNat < m.configs.length:=by omega
   have hk:=h.2 _ (List.getElem_mem hlt)
   have copy: ∀ c:ai,hM 1048576 c→nG c=some (c,())∧fZ c=some (c,()):=by
    intro c hc
    unfold nG pL fZ kn
    simp only [List.nil_append]
    rw [eh (qU hc.1),eh (qU hc.2)]
    exact⟨rfl,rfl⟩
   rw [eh (by omega),eh (by omega),List.getElem?_eq_getElem hlt]
   simp only [Option.bind_some,(copy _ hk).1,(copy _ hk).2]
   refine⟨_,_,rfl,rfl,oD hk,rfl,fun _=>⟨(f1 _ hlt).1,?_⟩,nofun⟩
   rw [(f1 _ hlt).2]
   omega
theorem Ck (x:aP) (ok:xd 1048576 x) (hv:cP x=some (true,())): ∃ c b,dW x.master=some (c,b,())∧fS x.master=some (c,b,())∧hM maxLen c∧(b=decide (x.master.activated > 0))∧(b=true→cb c=some (true,())∧c.epoch=x.master.activated)∧(b=false→c=⟨0,0,[],[]⟩):=by
 have vc:=MG ok hv
 obtain⟨_,f2,f3⟩:=MF (pM ok.2.2.1) vc.ml
 obtain⟨c,b,c1,c2,c3,c4,c5,c6⟩:=EL x.master x.master.activated ok.2.2.1 vc.ml
 unfold dW gt fS jz
 rw [c1,c2]
 refine⟨c,b,rfl,rfl,c3,?_,c5,c6⟩
 rw [c4]
 unfold tL
 rw [decide_eq_true f3,Bool.and_true]
 by_cases h:x.master.activated > 0
 ·rw [decide_eq_true h,decide_eq_true (by omega)]
 ·rw [decide_eq_false h,decide_eq_false (by omega)]
end Go.Proofs.YtkcgfceffffmoaaGreat.En

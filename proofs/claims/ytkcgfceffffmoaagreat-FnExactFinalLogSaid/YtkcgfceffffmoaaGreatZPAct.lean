/- The configuration in force. -/
import Derived.Test.YtkcgfceffffmoaaGreatZPV6
namespace Go.Proofs.YtkcgfceffffmoaaGreat.En
open Go
theorem EU (m:aw) (e:Int) (h:Cr 1048576 m) (hv:dy m=some (true,())): ∃ c b,iV m e=some (c,b,())∧iZ m e=some (c,b,())∧iM maxLen c∧(b=tR e 1 (m.configs.length:Int))∧(b=true→b9 c=some (true,())∧c.epoch=e)∧(b=false→c=⟨0,0,[],[]⟩):=by
 obtain⟨b,m1,m2⟩:=masterLog m (pO h)
 rw [hv] at m1
 simp only [Option.some.injEq,Prod.mk.injEq,and_true] at m1
 subst m1
 obtain⟨f1,_,_⟩:=MO (pO h) hv
 have zero:iM maxLen ⟨0,0,[],[]⟩:=⟨Nat.zero_le _,Nat.zero_le _⟩
 have hl:=h.1
 unfold iV ne iZ nj
 simp only [hv,m2,xj,AB,Option.bind_some,oD,cW]
 cases hw:tR e 1 (m.configs.length:Int) with
 | false=>exact⟨_,_,rfl,rfl,zero,rfl,nofun,fun _=>rfl⟩
 | true=>
   have hw:=mz.1 hw
   simp only [cW]
   rw [hQ (n:=e - 1) (by omega) (by omega)]
   have hlt: (e - 1).toNat < m.configs.length:=by omega
   have hk:=h.2 _ (List.getElem_mem hlt)
   have copy: ∀ c:ai,iM 1048576 c→nH c=some (c,())∧fZ c=some (c,()):=by
    intro c hc
    unfold nH pN fZ km
    simp only [List.nil_append]
    rw [eh (qX hc.1),eh (qX hc.2)]
    exact⟨rfl,rfl⟩
   rw [eh (by omega),eh (by omega),List.getElem?_eq_getElem hlt]
   simp only [Option.bind_some,(copy _ hk).1,(copy _ hk).2]
   refine⟨_,_,rfl,rfl,oE hk,rfl,fun _=>⟨(f1 _ hlt).1,?_⟩,nofun⟩
   rw [(f1 _ hlt).2]
   omega
theorem Ct (x:aQ) (ok:yZ 1048576 x) (hv:da x=some (true,())): ∃ c b,dW x.master=some (c,b,())∧fS x.master=some (c,b,())∧iM maxLen c∧(b=decide (x.master.activated > 0))∧(b=true→b9 c=some (true,())∧c.epoch=x.master.activated)∧(b=false→c=⟨0,0,[],[]⟩):=by
 have vc:=MP ok hv
 obtain⟨_,f2,f3⟩:=MO (pO ok.2.2.1) vc.ml
 obtain⟨c,b,c1,c2,c3,c4,c5,c6⟩:=EU x.master x.master.activated ok.2.2.1 vc.ml
 unfold dW gv fS jB
 rw [c1,c2]
 refine⟨c,b,rfl,rfl,c3,?_,c5,c6⟩
 rw [c4]
 unfold tR
 rw [decide_eq_true f3,Bool.and_true]
 by_cases h:x.master.activated > 0
 ·rw [decide_eq_true h,decide_eq_true (by omega)]
 ·rw [decide_eq_false h,decide_eq_false (by omega)]
end Go.Proofs.YtkcgfceffffmoaaGreat.En

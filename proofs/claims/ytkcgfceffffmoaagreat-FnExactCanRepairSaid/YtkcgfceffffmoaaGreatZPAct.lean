/- The configuration in force. -/
import Derived.Test.YtkcgfceffffmoaaGreatZPV6
namespace Go.Proofs.YtkcgfceffffmoaaGreat.En
open Go
theorem DK (m:aD) (e:Int) (h:DF 1048576 m) (hv:dw m=some (true,())): ∃ c b,iv m e=some (c,b,())∧iA m e=some (c,b,())∧jQ maxLen c∧(b=rK e 1 (m.configs.length:Int))∧(b=true→ci c=some (true,())∧c.epoch=e)∧(b=false→c=⟨0,0,[],[]⟩):=by
 obtain⟨b,m1,m2⟩:=masterLog m (oy h)
 rw [hv] at m1
 simp only [Option.some.injEq,Prod.mk.injEq,and_true] at m1
 subst m1
 obtain⟨f1,_,_⟩:=Hx (oy h) hv
 have zero:jQ maxLen ⟨0,0,[],[]⟩:=⟨Nat.zero_le _,Nat.zero_le _⟩
 have hl:=h.1
 unfold iv mS iA mU
 simp only [hv,m2,uP,wn,Option.bind_some,nW,cA]
 cases hw:rK e 1 (m.configs.length:Int) with
 | false=>exact⟨_,_,rfl,rfl,zero,rfl,nofun,fun _=>rfl⟩
 | true=>
   have hw:=ke.1 hw
   simp only [cA]
   rw [mi (n:=e - 1) (by omega) (by omega)]
   have hlt: (e - 1).toNat < m.configs.length:=by omega
   have hk:=h.2 _ (List.getElem_mem hlt)
   have copy: ∀ c:ai,jQ 1048576 c→nA c=some (c,())∧fH c=some (c,()):=by
    intro c hc
    unfold nA pK fH jY
    simp only [List.nil_append]
    rw [en (pE hc.1),en (pE hc.2)]
    exact⟨rfl,rfl⟩
   rw [en (by omega),en (by omega),List.getElem?_eq_getElem hlt]
   simp only [Option.bind_some,(copy _ hk).1,(copy _ hk).2]
   refine⟨_,_,rfl,rfl,ox hk,rfl,fun _=>⟨(f1 _ hlt).1,?_⟩,nofun⟩
   rw [(f1 _ hlt).2]
   omega
theorem Bi (x:ax) (ok:zn 1048576 x) (hv:cg x=some (true,())): ∃ c b,fw x.master=some (c,b,())∧fB x.master=some (c,b,())∧jQ maxLen c∧(b=decide (x.master.activated > 0))∧(b=true→ci c=some (true,())∧c.epoch=x.master.activated)∧(b=false→c=⟨0,0,[],[]⟩):=by
 have vc:=Hy ok hv
 obtain⟨_,f2,f3⟩:=Hx (oy ok.2.2.1) vc.ml
 obtain⟨c,b,c1,c2,c3,c4,c5,c6⟩:=DK x.master x.master.activated ok.2.2.1 vc.ml
 unfold fw i5 fB jh
 rw [c1,c2]
 refine⟨c,b,rfl,rfl,c3,?_,c5,c6⟩
 rw [c4]
 unfold rK
 rw [decide_eq_true f3,Bool.and_true]
 by_cases h:x.master.activated > 0
 ·rw [decide_eq_true h,decide_eq_true (by omega)]
 ·rw [decide_eq_false h,decide_eq_false (by omega)]
end Go.Proofs.YtkcgfceffffmoaaGreat.En

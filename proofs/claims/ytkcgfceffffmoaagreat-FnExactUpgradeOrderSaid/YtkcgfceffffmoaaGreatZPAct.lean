/- The configuration in force. -/
import Derived.Test.YtkcgfceffffmoaaGreatZPV6
namespace Go.Proofs.YtkcgfceffffmoaaGreat.En
open Go
theorem GG (m:ay) (e:Int) (h:Ee 1048576 m) (hv:dY m=some (true,())): ∃ c b,jN m e=some (c,b,())∧jQ m e=some (c,b,())∧jG maxLen c∧(b=vu e 1 (m.configs.length:Int))∧(b=true→cq c=some (true,())∧c.epoch=e)∧(b=false→c=⟨0,0,[],[]⟩):=by
 obtain⟨b,m1,m2⟩:=masterLog m (rg h)
 rw [hv] at m1
 simp only [Option.some.injEq,Prod.mk.injEq,and_true] at m1
 subst m1
 obtain⟨f1,_,_⟩:=OG (rg h) hv
 have zero:jG maxLen ⟨0,0,[],[]⟩:=⟨Nat.zero_le _,Nat.zero_le _⟩
 have hl:=h.1
 unfold jN oJ jQ oO
 simp only [hv,m2,zw,Cq,Option.bind_some,oC,dv]
 cases hw:vu e 1 (m.configs.length:Int) with
 | false=>exact⟨_,_,rfl,rfl,zero,rfl,nofun,fun _=>rfl⟩
 | true=>
   have hw:=od.1 hw
   simp only [dv]
   rw [gb (n:=e - 1) (by omega) (by omega)]
   have hlt: (e - 1).toNat < m.configs.length:=by omega
   have hk:=h.2 _ (List.getElem_mem hlt)
   have copy: ∀ c:ai,jG 1048576 c→pa c=some (c,())∧hU c=some (c,()):=by
    intro c hc
    unfold pa rf hU lx
    simp only [List.nil_append]
    rw [eU (oe hc.1),eU (oe hc.2)]
    exact⟨rfl,rfl⟩
   rw [eU (by omega),eU (by omega),List.getElem?_eq_getElem hlt]
   simp only [Option.bind_some,(copy _ hk).1,(copy _ hk).2]
   refine⟨_,_,rfl,rfl,pY hk,rfl,fun _=>⟨(f1 _ hlt).1,?_⟩,nofun⟩
   rw [(f1 _ hlt).2]
   omega
theorem Ef (x:aG) (ok:A4 1048576 x) (hv:dG x=some (true,())): ∃ c b,eH x.master=some (c,b,())∧eJ x.master=some (c,b,())∧jG maxLen c∧(b=decide (x.master.activated > 0))∧(b=true→cq c=some (true,())∧c.epoch=x.master.activated)∧(b=false→c=⟨0,0,[],[]⟩):=by
 have vc:=OH ok hv
 obtain⟨_,f2,f3⟩:=OG (rg ok.2.2.1) vc.ml
 obtain⟨c,b,c1,c2,c3,c4,c5,c6⟩:=GG x.master x.master.activated ok.2.2.1 vc.ml
 unfold eH iz eJ iB
 rw [c1,c2]
 refine⟨c,b,rfl,rfl,c3,?_,c5,c6⟩
 rw [c4]
 unfold vu
 rw [decide_eq_true f3,Bool.and_true]
 by_cases h:x.master.activated > 0
 ·rw [decide_eq_true h,decide_eq_true (by omega)]
 ·rw [decide_eq_false h,decide_eq_false (by omega)]
end Go.Proofs.YtkcgfceffffmoaaGreat.En

/- The configuration in force. -/
import Derived.Test.YtkcgfceffffmoaaGreatZPV6
namespace Go.Proofs.YtkcgfceffffmoaaGreat.En
open Go
theorem NU (m:ak) (e:Int) (h:AE 1048576 m) (hv:cR m=some (true,())): ∃ c b,lQ m e=some (c,b,())∧lZ m e=some (c,b,())∧iA maxLen c∧(b=t5 e 1 (m.configs.length:Int))∧(b=true→bZ c=some (true,())∧c.epoch=e)∧(b=false→c=⟨0,0,[],[]⟩):=by
 obtain⟨b,m1,m2⟩:=masterLog m (qp h)
 rw [hv] at m1
 simp only [Option.some.injEq,Prod.mk.injEq,and_true] at m1
 subst m1
 obtain⟨f1,_,_⟩:=Sa (qp h) hv
 have zero:iA maxLen ⟨0,0,[],[]⟩:=⟨Nat.zero_le _,Nat.zero_le _⟩
 have hl:=h.1
 unfold lQ rX lZ sb
 simp only [hv,m2,yu,BU,Option.bind_some,ma,bA]
 cases hw:t5 e 1 (m.configs.length:Int) with
 | false=>exact⟨_,_,rfl,rfl,zero,rfl,nofun,fun _=>rfl⟩
 | true=>
   have hw:=jJ.1 hw
   simp only [bA]
   rw [ec (n:=e - 1) (by omega) (by omega)]
   have hlt: (e - 1).toNat < m.configs.length:=by omega
   have hk:=h.2 _ (List.getElem_mem hlt)
   have copy: ∀ c:ai,iA 1048576 c→jt c=some (c,())∧dJ c=some (c,()):=by
    intro c hc
    unfold jt tC dJ lW
    simp only [List.nil_append]
    rw [fm (va hc.1),fm (va hc.2)]
    exact⟨rfl,rfl⟩
   rw [fm (by omega),fm (by omega),List.getElem?_eq_getElem hlt]
   simp only [Option.bind_some,(copy _ hk).1,(copy _ hk).2]
   refine⟨_,_,rfl,rfl,kP hk,rfl,fun _=>⟨(f1 _ hlt).1,?_⟩,nofun⟩
   rw [(f1 _ hlt).2]
   omega
theorem Ah (x:aj) (ok:rl 1048576 x) (hv:bn x=some (true,())): ∃ c b,fK x.master=some (c,b,())∧jn x.master=some (c,b,())∧iA maxLen c∧(b=decide (x.master.activated > 0))∧(b=true→bZ c=some (true,())∧c.epoch=x.master.activated)∧(b=false→c=⟨0,0,[],[]⟩):=by
 have vc:=Cw ok hv
 obtain⟨_,f2,f3⟩:=Sa (qp ok.2.2.1) vc.ml
 obtain⟨c,b,c1,c2,c3,c4,c5,c6⟩:=NU x.master x.master.activated ok.2.2.1 vc.ml
 unfold fK j8 jn nc
 rw [c1,c2]
 refine⟨c,b,rfl,rfl,c3,?_,c5,c6⟩
 rw [c4]
 unfold t5
 rw [decide_eq_true f3,Bool.and_true]
 by_cases h:x.master.activated > 0
 ·rw [decide_eq_true h,decide_eq_true (by omega)]
 ·rw [decide_eq_false h,decide_eq_false (by omega)]
end Go.Proofs.YtkcgfceffffmoaaGreat.En

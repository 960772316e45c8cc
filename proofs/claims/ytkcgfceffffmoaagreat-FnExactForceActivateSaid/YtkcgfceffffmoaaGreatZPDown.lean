/- DowngradeServer: the plain law. -/
import Derived.Test.YtkcgfceffffmoaaGreatZPUp
namespace Go.Proofs.YtkcgfceffffmoaaGreat.En
open Go
def Sg (l:List ar):Bool:=l.any fun e=>e.op.kind==2
theorem Si (l:List ar) (hl:l.length≤maxLen):eG l=some (Sg l,())∧gC l=some (Sg l,()):=by
 obtain⟨b,h1,h2⟩:=Qk l hl
 have bU:=UO (B:=cS) l.length (fun k=>((l,(k:Int),()),(),())) (.inr (((),()),(),())) (fun _=> .inl ((true,()),(),())) (fun k=>match l[k]? with | some e=>e.op.kind==2 | none=>false)
  (by simp only [cS,fh]; rw [aw,if_neg (by omega)])
  (fun k hk=>by
    have c1: (k:Int) < (l.length:Int):=by omega
    have c2: (0:Int)≤(k:Int):=by omega
    simp only [cS,fh,lV,mJ,aw,be,if_pos c1,if_pos c2,Int.toNat_natCast,List.getElem?_eq_getElem hk,Option.bind_some,bF hl hk]
    cases (l[k].op.kind==2) <;> rfl)
 have hb:eG l=some (Sg l,()):=by
  unfold eG jg fy kW
  rcases bU with ⟨k1,k2⟩ | ⟨k,hk,k1,k2,_⟩
  ·rw [show ik ((l,0,()),(),())=_ from k1]
   have :Sg l=false:=by
    unfold Sg
    rw [List.any_eq_false]
    intro e he
    obtain⟨k,hk,rfl⟩:=List.getElem_of_mem he
    have:=k2 k hk
    rw [List.getElem?_eq_getElem hk] at this
    simpa using this
   rw [this]
   rfl
  ·rw [show ik ((l,0,()),(),())=_ from k1]
   have :Sg l=true:=by
    unfold Sg
    rw [List.getElem?_eq_getElem hk] at k2
    exact List.any_eq_true.2 ⟨_,List.getElem_mem hk,k2⟩
   rw [this]
   rfl
 rw [hb] at h1
 simp only [Option.some.injEq,Prod.mk.injEq,and_true] at h1
 subst h1
 exact⟨hb,h2⟩
def aam (c:ai) (s:am):Bool:=decide (s.config=c)&&Sg s.log
end Go.Proofs.YtkcgfceffffmoaaGreat.En

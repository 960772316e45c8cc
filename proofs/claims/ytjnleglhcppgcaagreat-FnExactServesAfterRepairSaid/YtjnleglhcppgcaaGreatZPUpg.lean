/- UpgradeOrder: the plain law. -/
import Derived.Test.YtjnleglhcppgcaaGreatZPDel
import Derived.Test.YtjnleglhcppgcaaGreatZPAct
import Derived.Test.YtjnleglhcppgcaaGreatZPMk
namespace Go.Proofs.YtjnleglhcppgcaaGreat.En
open Go
theorem Ru (a b:List Int) (ha:yB a) (hb:b.length<=maxLen):j9 a b=some (a.filter fun x=> !decide (x∈b),()):=by
 have hl:=ha.len;have hm:a.length<=maxLen:=by unfold maxLen; omega
 have hp:=ha.pair
 have gE:=iB (B:=jh) a (fun k (out:List Int)=>((a,b,(),(k:Int),()),(),(out,()))) (fun k out=>out=(a.take k).filter fun x=> !decide (x∈b)) (fun k r out=>(((),()),(),(out++r.filter fun x=> !decide (x∈b),())))
  (fun out hb=>by simp only[jh];rw[ei,if_neg (by omega)];simp)
  (fun k out x hx hout=>by
    have hk:=i5 hx;have c1: (k:Int)< (a.length:Int):=by omega
    have c2: (0:Int)<=(k:Int):=by omega
    have hxe:a[k] =x:=by rw[ah hk] at hx; exact Option.some.inj hx
    simp only[jh,fi,ei,ek,if_pos c1,if_pos c2,ap,hx,ae,(fH b x hb).1,ey hm hk];by_cases hin:x∈b
    ·simp only[if_pos hin];refine .inl ⟨out,rfl,?_,?_⟩
     ·rw[hout,bK,hx,bQ];simp[hin]
     ·simp[hin]
    ·have hlt: ∀y∈out,y<x:=by
      intro y hy;rw[hout,cA] at hy;obtain⟨i,hi,he⟩:=aJ hy.1;have hi':i<k:=by simp at hi; omega
      rw[cM] at he;rw[<-he,<-hxe];exact bN.1 hp i k (by omega) hk hi'
     have hol:out.length<=1000:=by rw[hout];have:=cY (fun x=> !decide (x∈b)) (a.take k);simp only[bq] at this;omega
     simp only[if_neg hin,Ju out x hol hlt,ae];refine .inl ⟨out++ [x],rfl,?_,?_⟩
     ·rw[hout,bK,hx,bQ];simp[hin]
     ·simp[hin])
  0 [] (aI _) rfl
 unfold j9;rw[show t6 ((a,b,(),0,()),(),([],()))=_ from gE];rfl
end Go.Proofs.YtjnleglhcppgcaaGreat.En

/- UpgradeOrder: the plain law. -/
import Derived.Test.YtjnleglhcppgcaaGreatZPDel
import Derived.Test.YtjnleglhcppgcaaGreatZPAct
import Derived.Test.YtjnleglhcppgcaaGreatZPMk
namespace Go.Proofs.YtjnleglhcppgcaaGreat.En
open Go
theorem OY (a b:List Int) (ha:wm a) (hb:b.length<=maxLen):gT a b=some (a.filter fun x=> !decide (x∈b),()):=by
 have hl:=ha.len;have hm:a.length<=maxLen:=by unfold maxLen; omega
 have hp:=ha.pair
 have gA:=gJ (B:=iy) a (fun k (out:List Int)=>((a,b,(),(k:Int),()),(),(out,()))) (fun k out=>out=(a.take k).filter fun x=> !decide (x∈b)) (fun k r out=>(((),()),(),(out++r.filter fun x=> !decide (x∈b),())))
  (fun out hb=>by simp only[iy];rw[dV,if_neg (by omega)];simp)
  (fun k out x hx hout=>by
    have hk:=fR hx;have c1: (k:Int)< (a.length:Int):=by omega
    have c2: (0:Int)<=(k:Int):=by omega
    have hxe:a[k] =x:=by rw[ah hk] at hx; exact Option.some.inj hx
    simp only[iy,fg,dV,dZ,if_pos c1,if_pos c2,ao,hx,ae,(gp b x hb).1,ec hm hk];by_cases hin:x∈b
    ·simp only[if_pos hin];refine .inl ⟨out,rfl,?_,?_⟩
     ·rw[hout,bn,hx,bL];simp[hin]
     ·simp[hin]
    ·have hlt: ∀y∈out,y<x:=by
      intro y hy;rw[hout,cr] at hy;obtain⟨i,hi,he⟩:=aH hy.1;have hi':i<k:=by simp at hi; omega
      rw[cG] at he;rw[<-he,<-hxe];exact bE.1 hp i k (by omega) hk hi'
     have hol:out.length<=1000:=by rw[hout];have:=cN (fun x=> !decide (x∈b)) (a.take k);simp only[b6] at this;omega
     simp only[if_neg hin,Hq out x hol hlt,ae];refine .inl ⟨out++ [x],rfl,?_,?_⟩
     ·rw[hout,bn,hx,bL];simp[hin]
     ·simp[hin])
  0 [] (aF _) rfl
 unfold gT;rw[show rQ ((a,b,(),0,()),(),([],()))=_ from gA];rfl
end Go.Proofs.YtjnleglhcppgcaaGreat.En

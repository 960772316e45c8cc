/- New formats. -/
import Derived.Test.YtjnleglhcppgcaaGreatZPV6
namespace Go.Proofs.YtjnleglhcppgcaaGreat.En
open Go
theorem OO (l:List ea) (hl:l.length<=maxLen):xn (jy l) (lh l):=by
 have gA:=lA (B1:=jk) (B2:=eG) l.length (fun k=>((l,(k:Int),()),(),())) (fun k=>((l,(),(l.length:Int),(k:Int),()),(),())) (.inr (((),()),(),())) (.inr (((),()),(),())) (fun _=> .inl ((true,()),(),())) (fun k=> .inl (((k:Int),()),(),()))
  (fun _=>True) (fun _=>True)
  (by simp only[jk]; rw[dV,if_neg (by omega)])
  (by simp only[eG]; rw[dV,if_neg (by omega)])
  (fun k hk=>by
    have c1: (k:Int)< (l.length:Int):=by omega
    have c2: (0:Int)<=(k:Int):=by omega
    simp only[jk,eG,mr,qc,p9,dV,dZ,if_pos c1,if_pos c2,ao,ah hk,ae,ec hl hk];cases (l[k].op.kind==2) with
    |false=>exact .inl ⟨rfl,rfl,trivial⟩
    |true=>exact .inr ⟨rfl,rfl,trivial⟩)
 unfold jy lh fr fJ;rcases gA with ⟨k1,k2,_⟩| ⟨k,_,k1,k2,_⟩
 ·rw[show pO ((l,0,()),(),())=_ from k1,show gy ((l,(),(l.length:Int),0,()),(),())=_ from k2];exact⟨_,rfl,rfl⟩
 ·rw[show pO ((l,0,()),(),())=_ from k1,show gy ((l,(),(l.length:Int),0,()),(),())=_ from k2];simp only[ae,b8];rw[decide_eq_true (by omega)];exact⟨_,rfl,rfl⟩
end Go.Proofs.YtjnleglhcppgcaaGreat.En

/- New formats. -/
import Derived.Test.YtjnleglhcppgcaaGreatZPV6
namespace Go.Proofs.YtjnleglhcppgcaaGreat.En
open Go
theorem Rl (l:List eu) (hl:l.length<=maxLen):xP (kv l) (mi l):=by
 have gE:=jS (B1:=ka) (B2:=eY) l.length (fun k=>((l,(k:Int),()),(),())) (fun k=>((l,(),(l.length:Int),(k:Int),()),(),())) (.inr (((),()),(),())) (.inr (((),()),(),())) (fun _=> .inl ((true,()),(),())) (fun k=> .inl (((k:Int),()),(),()))
  (fun _=>True) (fun _=>True)
  (by simp only[ka]; rw[ei,if_neg (by omega)])
  (by simp only[eY]; rw[ei,if_neg (by omega)])
  (fun k hk=>by
    have c1: (k:Int)< (l.length:Int):=by omega
    have c2: (0:Int)<=(k:Int):=by omega
    simp only[ka,eY,nA,nn,m0,ei,ek,if_pos c1,if_pos c2,ap,ah hk,ae,ey hl hk];cases (l[k].op.kind==2) with
    |false=>exact .inl ⟨rfl,rfl,trivial⟩
    |true=>exact .inr ⟨rfl,rfl,trivial⟩)
 unfold kv mi fU gn;rcases gE with ⟨k1,k2,_⟩| ⟨k,_,k1,k2,_⟩
 ·rw[show qY ((l,0,()),(),())=_ from k1,show ia ((l,(),(l.length:Int),0,()),(),())=_ from k2];exact⟨_,rfl,rfl⟩
 ·rw[show qY ((l,0,()),(),())=_ from k1,show ia ((l,(),(l.length:Int),0,()),(),())=_ from k2];simp only[ae,b7];rw[decide_eq_true (by omega)];exact⟨_,rfl,rfl⟩
end Go.Proofs.YtjnleglhcppgcaaGreat.En

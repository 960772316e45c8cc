/- Leases that are over. -/
import Derived.Test.YtjnleglhcppgcaaGreatZPV6
namespace Go.Proofs.YtjnleglhcppgcaaGreat.En
open Go
theorem JF (x:fE):xn (pM x) (pR x):=by
 obtain⟨b,h1,h2⟩:=wZ x;unfold pM pR;simp only[h1,h2,ae];cases b with
 |false=>simp only[dK,eb];cases ((x.epoch==0)&&((x.holder==0)&&((x.ends==0)&&true)))<;>exact⟨_,rfl,rfl⟩
 |true=>
  simp only[bg,ek];cases he:x.ends==0 with
  |true=>
   cases hz: ((x.epoch==0)&&((x.holder==0)&&(true&&true))) with
   |true=>exact⟨_,rfl,rfl⟩
   |false=>
    exfalso;unfold mc at h2;rw[he,hz] at h2;simp only[ek,nX,ae] at h2
    have hw:kE x.ends 1 1049=false:=by rw[Bool.eq_false_iff];intro hw;have:=fB.1 hw;simp only[beq_iff_eq] at he;omega
    rw[hw] at h2;revert h2;cases kE x.epoch 1 20<;>cases kE x.holder 0 4<;>intro h2<;>cases h2
  |false=>
   have hz: ((x.epoch==0)&&((x.holder==0)&&(false&&true)))=false:=by cases x.epoch==0<;>cases x.holder==0<;>rfl
   rw[hz];exact⟨_,rfl,rfl⟩
theorem Bu (x:fE) (n:Int):xn (kp x n) (kr x n):=by obtain⟨b,h1,h2⟩:=wZ x;obtain⟨t,t1,t2⟩:=JF x;unfold kp kr;simp only[h1,h2,t1,t2,lV,nX,ae];cases b<;>cases kE n 0 999<;>exact⟨_,rfl,rfl⟩
end Go.Proofs.YtjnleglhcppgcaaGreat.En

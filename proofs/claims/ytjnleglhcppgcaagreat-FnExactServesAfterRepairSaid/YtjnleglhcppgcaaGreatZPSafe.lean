/- Leases that are over. -/
import Derived.Test.YtjnleglhcppgcaaGreatZPV6
namespace Go.Proofs.YtjnleglhcppgcaaGreat.En
open Go
theorem LD (x:fW):xP (qW x) (rd x):=by
 obtain⟨b,h1,h2⟩:=zo x;unfold qW rd;simp only[h1,h2,ae];cases b with
 |false=>simp only[bT,en];cases ((x.epoch==0)&&((x.holder==0)&&((x.ends==0)&&true)))<;>exact⟨_,rfl,rfl⟩
 |true=>
  simp only[aY,eB];cases he:x.ends==0 with
  |true=>
   cases hz: ((x.epoch==0)&&((x.holder==0)&&(true&&true))) with
   |true=>exact⟨_,rfl,rfl⟩
   |false=>
    exfalso;unfold ni at h2;rw[he,hz] at h2;simp only[eB,mG,ae] at h2
    have hw:je x.ends 1 1049=false:=by rw[Bool.eq_false_iff];intro hw;have:=fK.1 hw;simp only[beq_iff_eq] at he;omega
    rw[hw] at h2;revert h2;cases je x.epoch 1 20<;>cases je x.holder 0 4<;>intro h2<;>cases h2
  |false=>
   have hz: ((x.epoch==0)&&((x.holder==0)&&(false&&true)))=false:=by cases x.epoch==0<;>cases x.holder==0<;>rfl
   rw[hz];exact⟨_,rfl,rfl⟩
theorem Dn (x:fW) (n:Int):xP (lB x n) (lC x n):=by obtain⟨b,h1,h2⟩:=zo x;obtain⟨t,t1,t2⟩:=LD x;unfold lB lC;simp only[h1,h2,t1,t2,kg,mG,ae];cases b<;>cases je n 0 999<;>exact⟨_,rfl,rfl⟩
end Go.Proofs.YtjnleglhcppgcaaGreat.En

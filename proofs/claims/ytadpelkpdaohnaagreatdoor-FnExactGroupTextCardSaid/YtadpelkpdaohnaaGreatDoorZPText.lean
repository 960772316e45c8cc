/- Texts of a server: the plain law. -/
import Derived.Test.YtadpelkpdaohnaaGreatDoorZPServe
namespace Go.Proofs.YtadpelkpdaohnaaGreatDoor.En
open Go
def CN (n:Nat):ByteArray:=⟨(Lib.decDigits n).toArray⟩
theorem Ie {n:Nat} (h:n<10):Lib.decDigits n= [UInt8.ofNat (48+n)] :=by rw[Lib.decDigits];simp[h]
theorem Kw {n:Nat} (h1:10<=n) (h2:n<100):Lib.decDigits n= [UInt8.ofNat (48+n / 10),UInt8.ofNat (48+n % 10)] :=by rw[Lib.decDigits];simp only[dif_neg (show ¬n<10 by omega),Ie (show n / 10<10 by omega)];rfl
theorem ES {n:Nat} (h:n<100): (CN n).size<=2:=by
 show (Lib.decDigits n).toArray.size<=2;rcases bU n 10 with h1|h1
 ·rw[Ie h1]; exact cF 1
 ·rw[Kw h1 h]; exact aw 2
theorem Kx (k:Nat) (hk:k<10):DD [IntKind.wrap .u8 (IntKind.wrap .i64 (48+(k:Int)))] =⟨#[UInt8.ofNat (48+k)]⟩:=by rcases (by omega:k=0\/k=1\/k=2\/k=3\/k=4\/k=5\/k=6\/k=7\/k=8\/k=9) with rfl|rfl|rfl|rfl|rfl|rfl|rfl|rfl|rfl|rfl<;>kernel_rfl
theorem DA (n:Nat) (hn:0<n) (h:n<100) (b:ByteArray) (hb:b.size<=10):hQ (((n:Int),b,false,()),(),())=some (.inl ((((n / 10:Nat):Int),(⟨#[UInt8.ofNat (48+n % 10)]⟩:ByteArray)++b,false,()),(),())):=by
 have e1:Int.tmod (n:Int) 10=((n % 10:Nat):Int):=by rw[Int.tmod_eq_emod_of_nonneg (by omega)];omega
 have e2:IntKind.wrap .i64 (Int.tdiv (n:Int) 10)=((n / 10:Nat):Int):=by rw[Int.tdiv_eq_ediv_of_nonneg (by omega),fY (by omega) (by omega)];omega
 have hne: ¬ (n:Int)=0:=by omega
 have hlt: ¬ ((n % 10:Nat):Int)<0:=by omega
 have hs:=Kx (n % 10) (by omega)
 have hz: (⟨#[UInt8.ofNat (48+n % 10)]⟩:ByteArray).size+b.size<=2 ^ 40:=by have : (⟨#[UInt8.ofNat (48+n % 10)]⟩:ByteArray).size=1:=rfl;omega
 have hl: ∀z:Int,(([z]:List Int).drop 0).take ([z]:List Int).length= [z] :=fun _=>rfl;have hc: ∀z:Int,(0< ([z]:List Int).length/\0+([z]:List Int).length<=([z]:List Int).length)=True:=fun _=>eq_true ⟨Nat.one_pos,aw 1⟩;simp only[hQ,e1,e2,i5,kI,if_neg hne,dI,if_neg hlt,ea,hc,if_true,hl,hs,if_pos hz]
theorem GO (b:ByteArray):hQ ((((0:Nat):Int),b,false,()),(),())=some (.inr ((b,false,()),(),())):=by rw[show ((0:Nat):Int)=0 from rfl];simp only[hQ,i5,kI,if_true]
theorem Ig (n:Nat) (h:n<100):gQ (n:Int)=some (CN n,()):=by
 have hlt: ¬ (n:Int)<0:=by omega
 unfold gQ;rcases bc n with rfl|hn
 ·rw[show ((0:Nat):Int)=0 from rfl];simp only[kI,if_true];unfold CN;rw[Ie (by omega)];rfl
 ·have hne: ¬ (n:Int)=0:=by omega
  have s1:=DA n hn h ByteArray.empty (by decide);simp only[kI,if_neg hne,decide_eq_false hlt];unfold qz;rw[kB s1];rcases bU n 10 with h1|h1
  ·have :n / 10=0:=by omega
   rw[this];rw[fP (GO _)];simp only[af,eu];have hm:n % 10=n:=by omega
   rw[hm,ByteArray.append_empty];unfold CN;rw[Ie h1]
  ·have s2:=DA (n / 10) (by omega) (by omega) ((⟨#[UInt8.ofNat (48+n % 10)]⟩:ByteArray)++ByteArray.empty) (by rw[ByteArray.size_append]; exact (by decide:1+0<=10));rw[kB s2];have :n / 10 / 10=0:=by omega
   rw[this,fP (GO _)];simp only[af,eu];have hm:n / 10 % 10=n / 10:=by omega
   rw[hm,ByteArray.append_empty];unfold CN;rw[Kw h1 h];rfl
theorem Ih (n:Nat) (h:n<100):gW (n:Int)=some (CN n,()):=by unfold gW md;rw[if_pos (by omega)];rfl
theorem KJ {a:Int} (h0:0<=a) (h:a<100): ∃d:ByteArray,gQ a=some (d,())/\gW a=some (d,())/\d.size<=2:=by obtain⟨n,rfl⟩:=dh h0;exact⟨CN n,Ig n (by omega),Ih n (by omega),ES (by omega)⟩
theorem mark (b:Bool) (y z:ByteArray) (hy:y.size<=10) (hz:z.size<=10): ∃d:ByteArray,qb b y z=some (d,())/\rX b y z=some (d,())/\d.size<=10:=by
 cases b
 ·exact⟨z,rfl,rfl,hz⟩
 ·exact⟨y,rfl,rfl,hy⟩
theorem Ky {a b:ByteArray} {ρ:Type} {x:Option ρ} (h:a.size+b.size<=2 ^ 40):dJ (a.size+b.size<=2 ^ 40) x none=x:=by rw[ea,if_pos h]
theorem Bz (l:List UInt8): (⟨⟨l⟩⟩:ByteArray).size=l.length:=rfl
theorem JE {a b:ByteArray} (h:a.data.toList=b.data.toList):KD a b=true:=by have :a=b:=ByteArray.ext (Array.toList_inj.1 h);subst this;simp[KD]
end Go.Proofs.YtadpelkpdaohnaaGreatDoor.En

/- IsValidEvent: the plain law. -/
import Derived.Test.YtpagmogboinlpaaZPV4
namespace Go.Proofs.Ytpagmogboinlpaa.En
open Go
theorem vN (k:Int) (h1:1<=k) (h2:k<=16): ∃w f a b n,j8 k=some (w,f,())/\wL w ByteArray.empty=false/\iE k=some (a,b,n,())/\dx f ⟨⟨[115]⟩⟩=some (a,())/\dx f ⟨⟨[111]⟩⟩=some (b,())/\dx f ⟨⟨[110]⟩⟩=some (n,()):=by
 rcases (by omega:k=1\/k=2\/k=3\/k=4\/k=5\/k=6\/k=7\/k=8\/k=9\/k=10\/k=11\/k=12\/k=13\/k=14\/k=15\/k=16) with rfl|rfl|rfl|rfl|rfl|rfl|rfl|rfl|rfl|rfl|rfl|rfl|rfl|rfl|rfl|rfl<;>
  exact⟨_,_,_,_,_,rfl,by kernel_rfl,rfl,by kernel_rfl,by kernel_rfl,by kernel_rfl⟩
theorem qc (e:ia):vb (ey e) (ez e):=by
 unfold ey ez;obtain⟨v,v1,v2⟩:=uK e.op;simp only[wF,wG,v1,v2,ak,vM];cases hk:qN e.kind 1 16 with
 |false=>
  have hu:j8 e.kind=some (⟨⟨[]⟩⟩,⟨⟨[]⟩⟩,()):=by unfold j8;rw[if_neg];intro h;rw[qO.2 h] at hk;cases hk
  have he:wL ⟨⟨[]⟩⟩ ByteArray.empty=true:=by kernel_rfl
  simp only[hu,ak,he,qI,pa];exact⟨false,rfl,rfl⟩
 |true=>
  have hk':=qO.1 hk;obtain⟨w,f,a,b,n,u1,u2,u3,u4,u5,u6⟩:=vN e.kind hk'.1 hk'.2;simp only[u1,u2,u3,u4,u5,u6,ak,qI,pa];cases qN e.server 0 4 with
  |false=>exact⟨false,rfl,rfl⟩
  |true=>
   cases qN e.other 0 4 with
   |false=>exact⟨false,rfl,rfl⟩
   |true=>
    cases qN e.n 0 999 with
    |false=>exact⟨false,rfl,rfl⟩
    |true=>generalize (e.server==0)=p;generalize (e.other==0)=q;generalize (e.n==0)=r;generalize ((e.op.client==0)&&((e.op.seq==0)&&((e.op.kind==0)&&((e.op.object==0)&&((e.op.old==0)&&((e.op.value==0)&&true))))))=z;cases a<;>cases b<;>cases n<;>cases p<;>cases q<;>cases r<;>cases (e.kind==1)<;>exact⟨_,rfl,rfl⟩
theorem lY (e:ia):dL e=some (true,()):=by unfold dL;obtain⟨b,v1,v2⟩:=qc e;simp only[show gz e=some (e,()) from rfl,ak,v1,v2];cases b<;>rfl
end Go.Proofs.Ytpagmogboinlpaa.En

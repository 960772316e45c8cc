/- Plain laws. -/
import Derived.Test.YtkghndikalnipaaGreatZPT1
set_option linter.unusedSimpArgs false
set_option linter.unusedVariables false
namespace Go.Proofs.YtkghndikalnipaaGreat.En
open Go
section
theorem Rj{l:List qk}(h:l.length<=1048576/\∀s∈l,Fs 1048576 s){s:qk}(hs:Fs 1048576 s)(i:Nat): (l.set i s).length<=1048576/\∀s'∈l.set i s,Fs 1048576 s':=
 ⟨by rw[D8];exact h.1,λs' hm=>(cY hm).elim (h.2 s') λe=>e ▸ hs⟩
theorem adh(x:qh)(ok:EP 1048576 x)(id:Int):∃y n,Kt x id=some (y,n,())/\EP 1048576 y/\y.servers.length=x.servers.length:=by
 obtain⟨b,b1,_,b2⟩:=TT x id ok;unfold Kt;simp only[(FO x ok).1,b1,ao,EE];cases b with
 |false=>exact⟨x,1,rfl,ok,rfl⟩
 |true=>
  obtain⟨hv,h0,h5⟩:=b2 rfl;obtain⟨s,s1,_⟩:=HI ok (EZ ok hv) ⟨h0,h5⟩;have hlt:=Du s1;have hs:=ok.1.2 s (aA s1);simp only[C3,Cy,if_pos h0,s1,ao];rw[if_pos ⟨h0,by omega⟩];cases s.up with
  |false=>exact⟨x,2,rfl,ok,rfl⟩
  |true=>exact⟨_,0,rfl,⟨Rj ok.1 (show Fs 1048576 ⟨false,s.intact,s.version,s.epoch,s.config,s.first,s.log,s.commit,s.learned⟩from hs) _,ok.2⟩,D8⟩
theorem aa7(x:qh)(ok:EP 1048576 x)(id:Int):∃y n,Jt x id=some (y,n,())/\EP 1048576 y/\y.servers.length=x.servers.length:=by
 obtain⟨b,b1,_,b2⟩:=TT x id ok;unfold Jt;simp only[(FO x ok).1,b1,ao,EE];cases b with
 |false=>exact⟨x,1,rfl,ok,rfl⟩
 |true=>
  obtain⟨hv,h0,h5⟩:=b2 rfl;obtain⟨s,s1,_⟩:=HI ok (EZ ok hv) ⟨h0,h5⟩;have hlt:=Du s1;have hs:=ok.1.2 s (aA s1);simp only[C3,Cy,if_pos h0,s1,ao];rw[if_pos ⟨h0,by omega⟩];cases s.up with
  |true=>exact⟨x,1,rfl,ok,rfl⟩
  |false=>exact⟨_,0,rfl,⟨Rj ok.1 (show Fs 1048576 ⟨true,s.intact,s.version,s.epoch,s.config,s.first,s.log,s.commit,s.learned⟩from hs) _,ok.2⟩,D8⟩
theorem adT(x:qh)(ok:EP 1048576 x)(id:Int):∃y n,ND x id=some (y,n,())/\EP 1048576 y/\y.servers.length=x.servers.length:=by
 obtain⟨b,b1,_,b2⟩:=TT x id ok;unfold ND;simp only[(FO x ok).1,b1,ao,EE];cases b with
 |false=>exact⟨x,1,rfl,ok,rfl⟩
 |true=>obtain⟨hv,h0,h5⟩:=b2 rfl;obtain⟨s,s1,_⟩:=HI ok (EZ ok hv) ⟨h0,h5⟩;have hlt:=Du s1;simp only[C3,Cy,if_pos h0,s1,ao,Nf];rw[if_pos ⟨h0,by omega⟩];exact⟨_,0,rfl,⟨Rj ok.1 ⟨⟨bO _,bO _⟩,bO _,bO _⟩ _,ok.2⟩,D8⟩
theorem aaW(x:qh)(ok:EP 1048576 x)(n:Int):∃y k,Lo x n=some (y,k,())/\EP 1048576 y/\y.servers.length=x.servers.length:=by
 obtain⟨v,v1,_⟩:=Fx x ok;unfold Lo;simp only[(FO x ok).1,v1,FB,ao,EE];cases v with
 |false=>exact⟨x,1,rfl,ok,rfl⟩
 |true=>
  simp only[C3];cases HC n 0 3 with
  |false=>exact⟨x,1,rfl,ok,rfl⟩
  |true=>exact⟨_,0,rfl,ok,rfl⟩
theorem adU(x:qh)(ok:EP 1048576 x)(a b:Int):∃y k,Lj x a b=some (y,k,())/\EP 1048576 y/\y.servers.length=x.servers.length:=by
 obtain⟨v,v1,_⟩:=Fx x ok;obtain⟨u,u1,_⟩:=Nv x.sides (EO ok.2.1)
 have hm:∃l t,NE x.sides a b=some (l,t,())/\l.length=x.sides.length:=by
  unfold NE;simp only[bG,Cy,u1,FB,ao,EE];rw[if_pos (show x.sides.length*8<=2 ^ 40 by have:=ok.2.1;omega)];cases u with
  |false=>exact⟨_,_,rfl,rfl⟩
  |true=>
   simp only[C3];cases hw:HC a 0 4 with
   |false=>exact⟨_,_,rfl,rfl⟩
   |true=>
    simp only[C3];cases HC b 0 3 with
    |false=>exact⟨_,_,rfl,rfl⟩
    |true=>have hw:=EI.1 hw;have hl:=J3 (EO ok.2.1) u1;simp only[C3];rw[if_pos ⟨hw.1,by omega⟩,aq (by omega)];exact⟨_,_,rfl,D8⟩
 obtain⟨l,t,l1,l2⟩:=hm;unfold Lj;simp only[(FO x ok).1,v1,l1,ao,EE];cases v with
 |false=>exact⟨x,1,rfl,ok,rfl⟩
 |true=>
  cases t with
  |false=>exact⟨x,1,rfl,ok,rfl⟩
  |true=>exact⟨_,0,rfl,⟨ok.1,by show l.length<=1048576;rw[l2];exact ok.2.1,ok.2.2⟩,rfl⟩
theorem XH(x:qh)(ok:EP 1048576 x)(id:Int):∃n:Int,K2 x id=some (n,())/\(n=0->ED x=some (true,())/\0<=id/\id<5):=by
 obtain⟨v,v1,_⟩:=Fx x ok;unfold K2;simp only[v1,FB,ao,EE];cases v with
 |false=>exact⟨1,rfl,λh=>absurd h (by decide)⟩
 |true=>
  simp only[C3];cases hw:HC id 0 4 with
  |false=>exact⟨1,rfl,λh=>absurd h (by decide)⟩
  |true=>
   have hw:=EI.1 hw;obtain⟨s,s1,_⟩:=HI ok (EZ ok v1) ⟨hw.1,by omega⟩;simp only[C3,Cy,if_pos hw.1,s1,ao];cases s.up with
   |false=>exact⟨2,rfl,λh=>absurd h (by decide)⟩
   |true=>exact⟨0,rfl,λ_=>⟨trivial,hw.1,by omega⟩⟩
end
section
theorem tn{k n:Nat}(h:k<n): (k:Int).toNat<n:=h
theorem Xz(m:nr)(ho:m.objects.length<=1000)(hs:m.sessions.length<=1000):Tt (λy=>y.1=true->m.objects.length=3) (GP m):=by
 have mo:m.objects.length<=maxLen:=by unfold maxLen;omega
 have ms:m.sessions.length<=maxLen:=by unfold maxLen;omega
 unfold GP;refine .bind (.count (B:=GM) (E:=Sum.elim (λy=>y.1.2=(false,())) λy=>y.2.1=((m.objects,m.sessions,()),())) m.objects.length (λk (_:Unit)=>(((),(k:Int),()),((m.objects,m.sessions,()),()),())) (λ_ _=>True) (λ_ _=>.end (Eb _) (.ret rfl)) (λk _ hk _=>.go (D7.2 hk) (.ip (D5 k) (.get (tn hk) λx _ _=>?_))) () trivial) λy hy=>?_
 ·rw[FB,ao,EE];exact .br (λ_=>.ret ⟨(),by rw[Cb mo hk],trivial⟩) λ_=>.ret rfl
 cases y with
 |inl y=>exact .ret (by rw[show y.1.2=_ from hy];nofun)
 |inr y=>
  show Tt _ ((KT (((),0,()),y.2.1,())).bind _);rw[show y.2.1=_ from hy];refine .bind (.count (B:=GN) (E:=Sum.elim (λy=>y.1.2=(false,())) λy=>y.2.1=((m.objects,m.sessions,()),())) m.sessions.length (λk (_:Unit)=>(((),(k:Int),()),((m.objects,m.sessions,()),()),())) (λ_ _=>True) (λ_ _=>.end (Eb _) (.ret rfl)) (λk _ hk _=>.go (D7.2 hk) (.ip (D5 k) (.get (tn hk) λx _ _=>?_))) () trivial) λy hy=>?_
  ·simp only[FB,ao,EE]
   have hw: (k:Int)>0->IntKind.wrap .i64 ((k:Int)-1)=(k:Int)-1:=λh=>by unfold maxLen at ms;exact vP (by omega) (by omega)
   refine .br (λ_=>.br (λ_=>.br (λ_=>.br (λh=>?_) λ_=>.ret ⟨(),by rw[Cb ms hk],trivial⟩) λ_=>.ret rfl) λ_=>.ret rfl) λ_=>.ret rfl;have h:=of_decide_eq_true h;rw[hw h];exact .ip (by omega) (.get (by omega) λ_ _ _=>.br (λ_=>.ret rfl) λ_=>.ret ⟨(),by rw[Cb ms hk],trivial⟩)
  cases y with
  |inl y=>exact .ret (by rw[show y.1.2=_ from hy];nofun)
  |inr y=>show Tt _ (some (((y.2.1.1.1.length:Int)==3),()));rw[show y.2.1=_ from hy];exact .ret λh=>by have : (m.objects.length:Int)=3:=eq_of_beq h;omega
theorem abd(m:nr)(c:Int)(hs:m.sessions.length<=1000):Tt (λy=>y.2.1=true->∃x∈m.sessions,x.client=c) (MD m c):=by
 have ms:m.sessions.length<=maxLen:=by unfold maxLen;omega
 unfold MD;refine .bind (.count (B:=Mj) (E:=Sum.elim (λy=>∃x∈m.sessions,x.client=c) λ_=>True) m.sessions.length (λk (_:Unit)=>((c,(),(),(k:Int),()),((m.objects,m.sessions,()),(0,0,false,0,()),()),())) (λ_ _=>True) (λ_ _=>.end (Eb _) (.ret trivial)) (λk _ hk _=>.go (D7.2 hk) (.ip (D5 k) (.get (tn hk) λx _ hx=>.br (λe=>.ip (D5 k) (.get (tn hk) λ_ _ _=>.ret ⟨x,hx,eq_of_beq e⟩)) λ_=>.ret ⟨(),by rw[Cb ms hk],trivial⟩))) () trivial) λy hy=>?_;cases y with
 |inl y=>exact .ret λ_=>hy
 |inr y=>exact .ret nofun
theorem XL(m:nr)(o:Op)(ho:m.objects.length<=1000)(hs:m.sessions.length<=900):Tt (λy=>y.1.sessions.length<=m.sessions.length+1/\y.1.objects.length=m.objects.length) (LU m o):=by
 obtain⟨⟨b,_⟩,v1,v2⟩:=Xz m ho (by omega);unfold LU
 have cp:P0 m=some (m,()):=by unfold P0;simp only[bG];rw[CA (by omega),CA (by omega)]
 rw[cp,ao,v1,ao,EE,Ps];refine .br (λe=>?_) λ_=>.ret ⟨cL _,rfl⟩;have h3:=v2 e;rw[ao,EE];refine .br (λeo=>.bind (abd m o.client (by omega)) λy hy=>?_) λ_=>.ret ⟨cL _,rfl⟩;have hob:=Zd (show FI o=some (true,()) by rw[Ps];rw[show opB o=true from eo]);have hle:=abX m.sessions o.client;have hlt:y.2.1=true->Rk m.sessions o.client<m.sessions.length:=λh=>abY (hy h);have hw:IntKind.wrap .i64 (((Rk m.sessions o.client:Nat):Int)+1)=((Rk m.sessions o.client:Nat):Int)+1:=vP (by omega) (by omega);generalize hp:Rk m.sessions o.client=p at hle hlt hw
 have ln:∀ (k:Nat) (z:nu),k<=m.sessions.length+1->p<=k->(m.sessions.take p++ [z] ++(m.sessions.drop k).take (m.sessions.length-k)).length=p+1+(m.sessions.length-k):=λk z h1 h2=>by simp only[bL,cR,co,cy];omega
 have g0:0<=(p:Int):=D5 p;have g1: (p:Int)<=(m.sessions.length:Int):=Int.ofNat_le.2 hle;have g3:0<=(p:Int)+1:=by omega
 have g2:y.2.1=true->(p:Int)+1<=(m.sessions.length:Int):=λh=>by have:=hlt h;omega
 have l1: (m.sessions.take p).length<=900:=by rw[cR];omega
 extract_lets+lift j44 j45
 have h44:Tt (λy=>y.1.sessions.length<=m.sessions.length+1/\y.1.objects.length=m.objects.length) j44:=by
  unfold j44;refine .ip hob.1 (.get (by show o.object.toNat<_;omega) λx _ _=>.br (λ_=>.ip (by show 0<=o.object/\o.object<(m.objects.length:Int);omega) (.get (by show o.object.toNat<m.objects.length;omega) λ_ _ _=>?_)) λ_=>.br (λ_=>.ip (by show 0<=o.object/\o.object<(m.objects.length:Int);omega) (.get (by show o.object.toNat<m.objects.length;omega) λ_ _ _=>?_)) λ_=>?_)
  all_goals
   show Tt _ ((Nl (((),(),(),(),y.2.1,(),0,()),((o.client,o.seq,o.kind,o.object,o.old,o.value,()),((),(),()),(false,0,()),((),(),()),(_,_,()),()),_,m.sessions,())).bind _);rw[aek _ _ _ _ _ _ (by omega),hp,ao];simp only[hw,bG,aP,cE,D4,show (0:Int).toNat=0 from rfl,Ep,show ((p:Int)+1).toNat=p+1 from rfl];refine .ip ⟨g0,g1,cW _⟩ (.br (λe=>?_) λ_=>?_)
   ·have:=hlt e;refine .ip ⟨g3,g2 e,cW _⟩ (.ip ⟨cW _,g0,g1⟩ (.ip hle (.ip (by omega) (.ip (by rw[bL,cy];omega) (.ip (by omega) (.ip (by rw[ln _ _ (by omega) (by omega)];omega) (.ret ⟨?_,by first |rfl|exact D8⟩)))))));show List.length _<=_;rw[ln _ _ (by omega) (by omega)];omega
   ·refine .ip ⟨cW _,g0,g1⟩ (.ip hle (.ip (by omega) (.ip (by rw[bL,cy];omega) (.ip (by omega) (.ip (by rw[ln _ _ (by omega) (by omega)];omega) (.ret ⟨?_,by first |rfl|exact D8⟩))))));show List.length _<=_;rw[ln _ _ (by omega) (by omega)];omega
 have h45:Tt (λy=>y.1.sessions.length<=m.sessions.length+1/\y.1.objects.length=m.objects.length) j45:=.br (λ_=>.br (λ_=>.ret ⟨cL _,rfl⟩) λ_=>h44) λ_=>h44;exact .br (λ_=>.br (λ_=>.ret ⟨cL _,rfl⟩) λ_=>h45) λ_=>h45
theorem WQ(l:List rp)(hl:l.length<=maxLen):Tt (λy=>y.1.objects.length<=3/\y.1.sessions.length<=16) (JR l):=by obtain⟨b,b1,b2⟩:=TU hl;unfold JR Nd;rw[ao,b1,ao,EE];refine .br (λe=>?_) λ_=>.ret ⟨bO _,bO _⟩;have h16:=b2 e;refine .bind (.count (B:=Mh) (E:=λy=>y.2.2.1.length<=3/\y.2.2.2.1.length<=16) l.length (λk (b:List Int×List nu)=>((l,(),(),(k:Int),()),(((),(),()),((),(),()),()),b.1,b.2,())) (λk b=>b.1.length<=3/\b.2.length<=k) (λb hb=>.end (Eb _) (.ret ⟨hb.1,aX hb.2 h16⟩)) (λk b hk hb=>.go (D7.2 hk) (.ip (D5 k) (.get (tn hk) λx _ _=>.bind (XL ⟨b.1,b.2⟩ x.op (aX hb.1 (by omega)) (aX hb.2 (by omega))) λy hy=>.ret ⟨(y.1.objects,y.1.sessions),by rw[Cb hl hk],by rw[hy.2];exact hb.1,aX hy.1 (Nat.succ_le_succ hb.2)⟩))) ([0,0,0],[]) ⟨az _,az _⟩) λy hy=>.ret hy
theorem Zf(l:List rp)(i:Int)(hl:l.length<=maxLen):Tt T1 (LY l i):=by obtain⟨b,b1,b2⟩:=TU hl;unfold LY;rw[b1,ao,EE];refine .br (λe=>?_) λ_=>.ret trivial;have h16:=b2 e;rw[vP (n:=(l.length:Int)-1) (by omega) (by omega),FB,ao,EE];refine .br (λh=>?_) λ_=>.ret trivial;have h:=EI.1 h;refine .ip (by omega) (.bind (WQ _ ?_) λy hy=>.ip h.1 (.get (by omega) λx _ _=>.bind (XL _ _ (by omega) (by omega)) λz _=>.ret trivial));refine aX ?_ hl;rw[cR,co];omega
theorem TP(s:qk)(h:Fs 1048576 s)(hf:0<=s.first/\s.first<=16/\s.log.length<=16):Tt (λy=>y.1.length<=16) (Fl s):=by
 unfold Fl;rw[vP (n:=s.first+(s.log.length:Int)) (by omega) (by omega)];simp only[FB,ao,EE];refine .br (λh1=>?_) λ_=>.ret (bO _);have h1:=EI.1 h1;refine .br (λ_=>.ret (bO _)) λ_=>?_;rw[vP (n:=s.commit-s.first) (by omega) (by omega)]
 have hlen: ((s.log.drop (0:Int).toNat).take ((s.commit-s.first).toNat-(0:Int).toNat)).length<=16:=by rw[cR,co];omega
 refine .ip (by omega) ?_;rw[TQ (by omega)];exact .ret hlen
theorem adY(m:nr)(i:Int)(ho:m.objects.length<=1000)(hs:m.sessions.length<=1000):Tt T1 (Ln m i):=by obtain⟨⟨b,_⟩,b1,b2⟩:=Xz m ho hs;unfold Ln;rw[b1,ao,EE];refine .br (λe=>?_) λ_=>.ret trivial;have h3:=b2 e;rw[FB,ao,EE];refine .br (λh=>?_) λ_=>.ret trivial;have h:=EI.1 h;exact .ip h.1 (.get (by omega) λ_ _ _=>.ret trivial)
theorem YI{s:qk}{id:Int}(h:Fs 1048576 s)(hv:EG s id=some (true,())):0<=s.first/\s.first<=16/\s.log.length<=16:=by obtain⟨h1,h2,h3,_⟩:=H8 h hv;exact⟨h1,h2,h3⟩
theorem adE(s:qk)(i:Int)(h:Fs 1048576 s)(hf:0<=s.first/\s.first<=16/\s.log.length<=16):Tt T1 (NH s i):=by unfold NH;exact .bind (TP s h hf) λy hy=>.bind (WQ _ (by unfold maxLen;omega)) λz hz=>.bind (adY _ _ (by omega) (by omega)) λ_ _=>.ret trivial
theorem adl(l:uN)(a b c:Int):Tt T1 (Lh l a b c):=by obtain⟨v,v1,_⟩:=Pm l;unfold Lh;rw[v1,ao,FB,ao];exact .br (λ_=>.br (λ_=>.br (λ_=>.br (λ_=>.br (λ_=>.ret trivial) λ_=>.ret trivial) λ_=>.ret trivial) λ_=>.ret trivial) λ_=>.ret trivial) λ_=>.ret trivial
theorem ZX(x:qh)(ok:EP 1048576 x)(id:Int):Tt T1 (I2 x id):=by obtain⟨b,b1,_,b2⟩:=Ke x ok id;unfold I2;rw[b1,ao];refine .br (λe=>?_) λ_=>.ret trivial;obtain⟨hv,h0,h5,_⟩:=b2 e;exact .srv ok (EZ ok hv) ⟨h0,h5⟩ λs _ _ _=>.bind (adl _ _ _ _) λ_ _=>.ret trivial
theorem Yk(x:qh)(ok:EP 1048576 x)(id i:Int):Tt T1 (MB x id i):=by obtain⟨n,n1,n2⟩:=XH x ok id;unfold MB;rw[n1,ao,EE];refine .br (λe=>?_) λ_=>.ret trivial;obtain⟨hv,h0,h5⟩:=n2 (eq_of_beq e);have vc:=EZ ok hv;rw[FB,ao,EE];refine .br (λ_=>.srv ok vc ⟨h0,h5⟩ λs _ s2 _=>?_) λ_=>.ret trivial;obtain⟨b,b1,_⟩:=Ob s id s2;rw[b1,ao,EE];refine .br (λ_=>.bind (ZX x ok id) λy _=>?_) λ_=>.ret trivial;rw[EE];exact .br (λ_=>.srv ok vc ⟨h0,h5⟩ λs _ s2 s3=>.bind (adE s i s2 (YI s2 s3)) λ_ _=>.ret trivial) λ_=>.ret trivial
end
section
def Kp(x y:qh):Prop:=EP 1048576 y/\y.servers.length=x.servers.length
theorem Kp.self{x:qh}(ok:EP 1048576 x):Kp x x:=⟨ok,rfl⟩
theorem Kp.trans{x y z:qh}(h:Kp x y)(k:Kp y z):Kp x z:=⟨k.1,k.2.trans h.2⟩
theorem Kp.srvs{x y:qh}(h:Kp x y){S:List qk}(hl:S.length=y.servers.length)(hs:∀s∈S,Fs 1048576 s):Kp x ⟨y.now,S,y.sides,y.master,y.masterUp,y.lease,y.places⟩:=
 ⟨⟨⟨by rw[hl];exact h.1.1.1,hs⟩,h.1.2⟩,hl.trans h.2⟩
theorem Kp.set{x y:qh}(h:Kp x y){s:qk}(hs:Fs 1048576 s)(i:Nat):Kp x ⟨y.now,y.servers.set i s,y.sides,y.master,y.masterUp,y.lease,y.places⟩:=
 h.srvs D8 (Rj h.1.1 hs i).2
theorem Tt.at{α:Type}{Q:α->Prop}{l:List qk}(h5:l.length=5){a:Int}(ha:0<=a/\a<5){k:qk->Option α}(h:∀s,l[a.toNat]?=some s->s∈l->Tt Q (k s)):Tt Q (iteP (0<=a/\a<(l.length:Int)) ((l[a.toNat]?).bind k) none):=
 .ip (by rw[h5];exact ha) (.get (by omega) h)
theorem adk(x:qh)(ok:EP 1048576 x)(id:Int):Tt T1 (Ku x id):=by obtain⟨b,b1,_,b2⟩:=Ke x ok id;unfold Ku;rw[b1,ao,EE];refine .br (λe=>?_) λ_=>.ret trivial;obtain⟨hv,h0,h5,_⟩:=b2 e;have vc:=EZ ok hv;refine .srv ok vc ⟨h0,h5⟩ λs _ s2 _=>.bind (RX _ (EK s2.1)) λy hy=>.bind (.count (B:=KI) (E:=λ_=>True) y.1.length (λk (b:Int)=>(((),b,(),(k:Int),()),(fx x,()),y.1,())) (λ_ _=>True) (λ_ _=>.end (Eb _) (.ret trivial)) (λk b hk _=>.go (D7.2 hk) (.ip ⟨D5 k,D7.2 hk⟩ (.get (tn hk) λz _ hz=>.srv ok vc (hy.2 z hz) λt _ _ _=>.ret ⟨_,by rw[Cb (by have:=hy.1;unfold maxLen;omega) hk],trivial⟩))) 2 trivial) λ_ _=>.ret trivial
theorem abr(x:qh)(ok:EP 1048576 x)(id:Int)(o:Op):Tt (λy=>Kp x y.1/\(y.2.1=0->y.1.servers.length=5/\0<=id/\id<5)) (Iw x id o):=by
 obtain⟨v,v1,_⟩:=Fx x ok;unfold Iw;rw[(FO x ok).1,ao,v1,ao,EE];have bad:∀n:Int,n≠0->Tt (λy:qh×Int×Unit=>Kp x y.1/\(y.2.1=0->y.1.servers.length=5/\0<=id/\id<5)) (some (x,n,())):=λn hn=>.ret ⟨.self ok,λh=>absurd h hn⟩;refine .br (λe=>?_) λ_=>bad 1 (by decide);subst e;have vc:=EZ ok v1;rw[FB,ao,EE];refine .br (λh=>?_) λ_=>bad 1 (by decide);have h:=EI.1 h;have hid:0<=id/\id<5:=by omega
 rw[Ps,ao,EE];refine .br (λ_=>.srv ok vc hid λs s1 s2 s3=>?_) λ_=>bad 1 (by decide);rw[EE];refine .br (λ_=>?_) λ_=>bad 2 (by decide);obtain⟨b,b1,_⟩:=Ob s id s2;rw[b1,ao,EE];refine .br (λ_=>.bind (ach s.log _ _ (EO s2.2.1)) λy hy=>?_) λ_=>bad 3 (by decide);have good:∀n:Int,Tt (λy:qh×Int×Unit=>Kp x y.1/\(y.2.1=0->y.1.servers.length=5/\0<=id/\id<5)) (some (x,n,())):=λn=>.ret ⟨.self ok,λ_=>⟨vc.len,hid⟩⟩
 extract_lets+lift j17 j18
 have h17:Tt (λy=>Kp x y.1/\(y.2.1=0->y.1.servers.length=5/\0<=id/\id<5)) j17:=by
  unfold j17;refine .at vc.len hid λs' e' hs'=>?_;show Tt _ ((x.servers[id.toNat]?).bind _);rw[e',ao];have hs:=ok.1.2 s' hs';have hs3:=hs.2.1;obtain rfl:s'=s:=by rw[s1]at e';exact(Option.some.inj e').symm
  have hl:=(YI s2 s3).2.2;refine .ip rfl ?_;have e1:∀X Y:Option (qh×Int×Unit),iteP (s'.log.length<s'.log.length) X Y=Y:=λX Y=>by rw[Cy,if_neg (dA _)]
  rw[e1]
  have hl2: (s'.log.take s'.log.length++([(⟨s'.epoch,o⟩:rp)]:List rp)).length<=17:=by rw[bL,cR,cy];omega
  refine .ip (by omega) (.ip (by show 0<=id/\id<(x.servers.length:Int);rw[vc.len];exact hid) (.ip rfl (.ret ⟨(Kp.self ok).set (s:=⟨s'.up,s'.intact,s'.version,s'.epoch,s'.config,s'.first,s'.log.take s'.log.length++ [⟨s'.epoch,o⟩],s'.commit,s'.learned⟩) ⟨hs.1,aX hl2 (by omega),hs.2.2⟩ _,λ_=>⟨by show (x.servers.set _ _).length=5;rw[D8];exact vc.len,hid⟩⟩)))
 have h18:Tt (λy=>Kp x y.1/\(y.2.1=0->y.1.servers.length=5/\0<=id/\id<5)) j18:=by unfold j18;refine .bind (WQ s.log (EO s2.2.1)) λm hm=>.bind (XL m.1 o (by omega) (by omega)) λz _=>?_;rw[EE];refine .br (λ_=>.bind (Q:=T1) (by unfold IG;exact .ret trivial) λw _=>?_) λ_=>good 11;exact .br (λ_=>.bind (adk x ok id) λ_ _=>.br (λ_=>good 6) λ_=>.br (λ_=>good 5) λ_=>h17) λ_=>.br (λ_=>good 5) λ_=>h17
 refine .br (λh=>.ip (of_decide_eq_true h) (.get ?_ λe _ _=>?_)) λ_=>.br (λ_=>good 0) λ_=>h18
 ·have h:=of_decide_eq_true h;omega
 ·rw[EE];exact .br (λ_=>.br (λ_=>good 0) λ_=>h18) λ_=>good 11
theorem okS{s t:qk}(h:Fs 1048576 s)(h1:t.config=s.config)(h2:t.log=s.log)(h3:t.learned=s.learned):Fs 1048576 t:=⟨by rw[h1];exact h.1,by rw[h2];exact h.2.1,by rw[h3];exact h.2.2⟩
abbrev fz:Int×Unit×Unit×Unit×Int×Int×Int×Int×Int×Unit×Unit:=(0,(),(),(),0,0,0,0,0,(),())
abbrev fc(x:qh):Int×Unit×Unit×Unit×Int×Int×Int×Int×Int×Unit×Unit:=(x.now,(),(),(),x.master.activated,x.masterUp,x.lease.epoch,x.lease.holder,x.lease.ends,(),())
theorem V8(x:qh)(ok:EP 1048576 x)(id:Int):Tt (λy=>Kp x y.1) (Fr x id):=by obtain⟨S,b,c1,_,okS,hl⟩:=QS x ok id;rw[c1];exact .ret ⟨okS,hl⟩
theorem abu(x:qh)(ok:EP 1048576 x)(id:Int)(o:Op):Tt (λy=>Kp x y.1) (NB x id o):=by
 unfold NB;refine .bind (abr x ok id o) λy hy=>?_;rw[EE];refine .br (λe=>?_) λ_=>.ret hy.1;obtain⟨h5,hid⟩:=hy.2 (eq_of_beq e)
 have same:∀ {α:Type} {Q:α->Prop} {l:List qk} {k:qk->qk->Option α},l.length=5->(∀s∈l,Fs 1048576 s)->(∀s,Fs 1048576 s->Tt Q (k s s))->Tt Q (iteP (0<=id/\id<(l.length:Int)) ((l[id.toNat]?).bind λa=>(l[id.toNat]?).bind λb=>k a b) none):=λh5 hs h=>.at h5 hid λs e1 e2=>by rw[e1,ao];exact h s (hs s e2)
 have AO:∀s:qk,(s.log.drop 0).take s.log.length=s.log:=λs=>by rw[cE,D9]
 refine same h5 hy.1.1.1.2 λs hs=>.ip (by omega) ?_;rw[AO];refine .bind (ach _ _ _ (EO hs.2.1)) λi _=>.at h5 hid λt _ _=>.br (λ_=>.bind (V8 y.1 hy.1.1 id) λz hz=>?_) λ_=>same h5 hy.1.1.1.2 λs hs=>.ip (by omega) ?_
 ·rw[EE];refine .br (λ_=>same (hz.2.trans h5) hz.1.1.2 λs hs=>.ip (by omega) ?_) λ_=>.ret (hy.1.trans hz);rw[AO];exact .bind (Zf _ _ (EO hs.2.1)) λ_ _=>.ret (hy.1.trans hz)
 ·rw[AO];exact .bind (Zf _ _ (EO hs.2.1)) λ_ _=>.ret hy.1
end
section
theorem SJ(x:qh)(ok:EP 1048576 x):Tt (λy=>y.1=true->VC x) (ED x):=by obtain⟨v,v1,_⟩:=Fx x ok;exact⟨(v,()),v1,λe=>EZ ok (by rw[v1,show v=true from e])⟩
theorem aby(x:qh)(ok:EP 1048576 x)(e:Int):∃c b,FR x.master e=some (c,b,())/\Gu maxLen c/\(VC x->c.replicas.length<=5/\c.witnesses.length<=5/\(∀z∈c.replicas,0<=z/\z<5)/\(∀z∈c.witnesses,0<=z/\z<5)/\(b=true->EH c=some (true,())/\0<=c.primary/\c.primary<5)/\Oe c.replicas):=by
 obtain⟨c,b,h1,_,h2⟩:=Mx x.master e ok.2.2.1;refine⟨c,b,h1,h2,λvc=>?_⟩;obtain⟨c',b',g1,_,g2,_,g3,g4⟩:=IX x.master e ok.2.2.1 vc.ml;rw[h1]at g1;obtain⟨rfl,rfl⟩:c=c'/\b=b':=by simpa using g1
 cases b with
 |false=>rw[g4 rfl];exact⟨bO _,bO _,nofun,nofun,nofun,λk hk=>by simp at hk⟩
 |true=>obtain⟨a1,a2,a3,_⟩:=Gq g2 (g3 rfl).1;exact⟨a1.len,a2.len,Jc a1,Jc a2,λ_=>⟨(g3 rfl).1,Jc a1 _ a3⟩,a1⟩
theorem adc(x:qh)(ok:EP 1048576 x):∃c b,EF x.master=some (c,b,())/\Gu maxLen c/\(VC x->c.replicas.length<=5/\c.witnesses.length<=5/\(∀z∈c.replicas,0<=z/\z<5)/\(∀z∈c.witnesses,0<=z/\z<5)/\(b=true->EH c=some (true,())/\0<=c.primary/\c.primary<5)/\Oe c.replicas):=by obtain⟨c,b,h1,h2⟩:=aby x ok x.master.activated;exact⟨c,b,by unfold EF;rw[h1];rfl,h2⟩
theorem aa9(s:qk)(e:Int)(h:Fs 1048576 s):Tt (λy=>Fs 1048576 y.1) (Hq s e):=by unfold Hq;rw[(Nb s h).1,ao,FB,ao,EE];exact .br (λ_=>.br (λ_=>.ret h) λ_=>.br (λ_=>.ret h) λ_=>.ret h) λ_=>.ret h
section
variable {x:qh} (ok:EP 1048576 x) (vc:VC x) (id:Int)
include ok vc
omit ok vc in
omit ok vc in
omit ok vc in
end
theorem WI(l:List rp)(hl:l.length<=maxLen):Tt T1 (Ft l):=by unfold Ft;refine .bind (.count (B:=Hi) (E:=λ_=>True) l.length (λk (_:Unit)=>((l,(k:Int),()),(),())) (λ_ _=>True) (λ_ _=>.end (Eb _) (.ret trivial)) (λk _ hk _=>.go (D7.2 hk) (.ip (D5 k) (.get (tn hk) λe _ _=>.bind (Q:=T1) (by unfold IG;exact .ret trivial) λ_ _=>.br (λ_=>.ret trivial) λ_=>.ret ⟨(),by rw[Cb hl hk],trivial⟩))) () trivial) λy _=>?_;cases y<;>exact .ret trivial
theorem aaf(s:qk)(c:nG)(id:Int)(l:List rp)(hs:Fs 1048576 s)(hc:Gu 1048576 c)(hl:l.length<=1048576):Tt (λy=>Fs 1048576 y.1) (F1 s c id l):=by
 obtain⟨n,n1,_⟩:=Od c id (EK hc);obtain⟨b,b1,_⟩:=TU (EO hl);obtain⟨e,e1,_⟩:=Io l (EO hl);unfold F1;simp only[n1,b1,e1,(Nb s hs).1,(Na c hc).1,TQ hl,FB,ao,EE,TR l hl];have hk:cutAt l<=l.length:=Nat.sub_le _ _
 have hl2: ((l.drop (cutAt l)).take ((l.length:Int).toNat-cutAt l)).length<=1048576:=by rw[cR,co];omega
 refine .br (λ_=>.ret hs) λ_=>.br (λ_=>.br (λ_=>.br (λ_=>.br (λ_=>.ret hs) λ_=>.br (λ_=>.bind (WI l (EO hl)) λ_ _=>.br (λ_=>.ret hs) λ_=>?_) λ_=>?_) λ_=>.ret hs) λ_=>.ret hs) λ_=>.ret hs
 all_goals
  exact .br (λ_=>.ip (by omega) (.bind (Q:=λy=>y.1.length<=1048576) ⟨_,TQ hl2,hl2⟩ λy hy=>.ret ⟨hc,hy,bO _⟩)) λ_=>.ret ⟨hc,hl,bO _⟩
theorem XK(m:jZ)(h:Md 1048576 m)(e:Int):Tt (λy=>Md 1048576 y.1/\y.1.configs.length=m.configs.length) (FQ m e):=by obtain⟨b,b1,_⟩:=masterLog m (Gp h);unfold FQ;rw[(Pj m h).1,ao,b1,ao,EE];refine .br (λ_=>?_) λ_=>.ret ⟨h,rfl⟩;rw[EE];exact .br (λ_=>.br (λ_=>.ret ⟨h,rfl⟩) λ_=>.ret ⟨h,rfl⟩) λ_=>.ret ⟨h,rfl⟩
theorem QA(x:qh)(ok:EP 1048576 x):Tt (λy=>Kp x y.1) (H1 x):=by obtain⟨y,n,s1,_,oky,hl⟩:=WY x ok;rw[s1];exact .ret ⟨oky,hl⟩
end
section
theorem Td(m:jZ)(h:Md 1048576 m)(c:nG)(hc:Gu 1048576 c):Tt (λy=>Md 1048576 y.1/\y.1.configs.length<=m.configs.length+1) (GK m c):=by
 obtain⟨r,b,h,_,okr,_,h0,h1⟩:=Rb m c h hc;rw[h];refine .ret ⟨okr,?_⟩;cases b with
 |false=>rw[h0 rfl];exact cL _
 |true=>rw[(h1 rfl).1];show (m.configs++ [c]).length<=_;rw[bL];exact az _
theorem Sx(x:qh)(ok:EP 1048576 x)(c:nG)(hc:Gu 1048576 c):Tt (λy=>Kp x y.1) (Ge x c):=by unfold Ge;rw[(FO x ok).1,ao];refine .bind (SJ x ok) λv _=>?_;rw[EE];refine .br (λ_=>.br (λ_=>.ret (.self ok)) λ_=>.bind (Td x.master ok.2.2.1 c hc) λm hm=>?_) λ_=>.ret (.self ok);rw[EE];exact .br (λ_=>.ret ⟨⟨ok.1,ok.2.1,hm.1,ok.2.2.2⟩,rfl⟩) λ_=>.ret (.self ok)
theorem ac6(x:qh)(ok:EP 1048576 x)(n:Int):Tt (λy=>Kp x y.1) (LW x n):=by unfold LW;rw[(FO x ok).1,ao];refine .bind (SJ x ok) λv _=>?_;rw[EE];refine .br (λ_=>?_) λ_=>.ret (.self ok);rw[FB,ao,EE];exact .br (λ_=>.ret ⟨ok,rfl⟩) λ_=>.ret (.self ok)
theorem aci(x:qh)(ok:EP 1048576 x)(id:Int):Tt (λy=>y.1=true->VC x/\0<=id/\id<5) (Il x id):=by obtain⟨b,b1,_,b2⟩:=TT x id ok;exact⟨_,b1,λe=>⟨EZ ok (b2 e).1,(b2 e).2⟩⟩
theorem abo(x:qh)(ok:EP 1048576 x)(id:Int):Tt (λy=>Kp x y.1) (Ju x id):=by unfold Ju;rw[(FO x ok).1,ao];refine .bind (aci x ok id) λv hv=>?_;rw[EE];refine .br (λe=>?_) λ_=>.ret (.self ok);obtain⟨vc,hid⟩:=hv e;refine .srv ok vc hid λs _ _ _=>.br (λ_=>.ret (.self ok)) λ_=>.srv ok vc hid λt _ _ _=>?_;rw[EE];exact .br (λ_=>.at vc.len hid λu _ hu=>.ret ((Kp.self ok).set (s:=⟨u.up,u.intact,2,u.epoch,u.config,u.first,u.log,u.commit,u.learned⟩) (ok.1.2 u hu) _)) λ_=>.ret (.self ok)
theorem XS(x:qh)(ok:EP 1048576 x)(id:Int):Tt (λy=>Kp x y.1) (Ix x id):=by
 unfold Ix;rw[(FO x ok).1,ao];refine .bind (aci x ok id) λv hv=>?_;rw[EE];refine .br (λe=>?_) λ_=>.ret (.self ok);obtain⟨vc,hid⟩:=hv e;refine .srv ok vc hid λs _ _ _=>.br (λ_=>.ret (.self ok)) λ_=>.srv ok vc hid λt _ _ _=>?_;rw[EE];refine .br (λ_=>.srv ok vc hid λs _ s2 _=>.bind (Q:=T1) ?_ λ_ _=>.br (λ_=>.ret (.self ok)) λ_=>.bind (.count (B:=Ip) (E:=Sum.elim (λe=>∃n:Int,e=((id,(),n,(),()),(fc x,fc x,()),x.servers,x.sides,x.master.configs,x.places,())) λe=>e=((id,(),(),(),()),(fz,fc x,()),x.servers,x.sides,x.master.configs,x.places,())) x.servers.length (λk (_:Unit)=>((id,(),(),(),(),(k:Int),()),(fx x,fz,fc x,fsv s,()),x.servers,x.sides,x.master.configs,x.places,())) (λ_ _=>True) (λ_ _=>.end (Eb _) (.ret rfl)) (λk _ hk _=>?_) () trivial) λe he=>?_) λ_=>.ret (.self ok)
 ·unfold I4;exact .bind (WI _ (EO s2.2.2)) λ_ _=>.ret trivial
 ·have sw:=Cb (EO ok.1.1) hk;refine .go (D7.2 hk) ?_;rw[show JD _=_ from Kd s.config (EK s2.1),ao,EE];refine .br (λ_=>.ret rfl) λ_=>.ip (D5 k) (.get (tn hk) λt _ ht=>?_);have ht:=ok.1.2 t ht;rw[show GX _ _=_ from(GJ t.config s.config (EK ht.1)).1,ao];refine .br (λ_=>.ip (D5 k) (.get (tn hk) λu _ hu=>.bind (Q:=T1) ?_ λ_ _=>.br (λ_=>.ret ⟨_,rfl⟩) λ_=>.ret ⟨(),by rw[sw],trivial⟩)) λ_=>.ret ⟨(),by rw[sw],trivial⟩;unfold I4;exact .bind (WI _ (EO (ok.1.2 u hu).2.1)) λ_ _=>.ret trivial
 cases e with
 |inl e=>obtain⟨n,rfl⟩:=he;exact .ret (.self ok)
 |inr e=>obtain rfl:=he;exact .at vc.len hid λu _ hu=>.ret ((Kp.self ok).set (s:=⟨u.up,u.intact,1,u.epoch,u.config,u.first,u.log,u.commit,u.learned⟩) (ok.1.2 u hu) _)
theorem abc(x:qh)(ok:EP 1048576 x):Tt T1 (Fy x):=by obtain⟨n,h,_⟩:=J2 x ok;rw[h];exact .ret trivial
theorem YQ(x:qh)(ok:EP 1048576 x):Tt T1 (HO x):=by unfold HO;exact .bind (abc x ok) λ_ _=>.ret trivial
section
variable {l:List uQ} (hl:l.length<=maxLen) (hv:FG l=some (true,()))
include hl hv
theorem adD(m:List Int)(hm:Oe m):Tt (λy=>y.1.length<=5) (OM l m):=by have h5:=Sw hl hv;have ml:=hm.len;unfold OM;refine .bind (.count (B:=Og) (E:=λe=>e.2.2.1.length<=5) m.length (λk (b:List Int)=>((l,m,(),(k:Int),()),(),b,())) (λk b=>b.length<=k/\SS b) (λb hb=>.end (Eb _) (.ret (aX hb.1 ml))) (λk b hk hb=>?_) [] ⟨az _,List.Pairwise.nil⟩) λy hy=>.ret hy;refine .go (D7.2 hk) ?_;dsimp only;rw[hv,ao,(QB hm).1,ao];refine .br (λ_=>.br (λ_=>.ip (D5 k) (.get (tn hk) λz _ hz=>.ip (Jc hm z hz).1 (.get (by have:=Jc hm z hz;omega) λp _ _=>?_))) (λh=>by cases h)) (λh=>by cases h);obtain⟨r,r1,r2,_,r4,_⟩:=abZ b p.rack (by omega) hb.2;rw[r1,ao];exact .ret ⟨r,by rw[Cb (by unfold maxLen;omega) hk],by omega,r2⟩
theorem ad0(i:Int):Tt T1 (OL l i):=by have h5:=Sw hl hv;unfold OL;rw[hv,ao,FB,ao];refine .br (λ_=>.br (λh=>?_) λ_=>.ret trivial) λ_=>.ret trivial;have h:=EI.1 h;exact .ip h.1 (.get (by omega) λ_ _ _=>.ip h.1 (.get (by omega) λ_ _ _=>.ret trivial))
theorem abt(r:List Int)(hr:r.length<=5){a b:Int}(ha:0<=a/\a<5)(hb:0<=b/\b<5):Tt T1 (NK l r a b):=by
 have h5:=Sw hl hv;have rm:r.length<=maxLen:=by unfold maxLen;omega
 unfold NK;refine .ip ha.1 (.get (by omega) λp _ _=>?_);rw[(EY r p.rack rm).1,ao];refine .ip hb.1 (.get (by omega) λq _ _=>?_);rw[(EY r q.rack rm).1,ao,EE];exact .br (λ_=>.ip ha.1 (.get (by omega) λ_ _ _=>.ip hb.1 (.get (by omega) λ_ _ _=>.ret trivial))) λ_=>.ret trivial
theorem abk(m d:List Int)(hm:Oe m)(hd:d.length<=maxLen):Tt (λy=>y.1= -1\/(0<=y.1/\y.1<5/\y.1∉m)) (K1 l m d):=by
 have ml:m.length<=maxLen:=by have:=hm.len;unfold maxLen;omega
 unfold K1;refine .bind (adD hl hv m hm) λr hr=>.bind (.count (B:=Mg) (E:=λe=>e.1.1= -1\/(0<=e.1.1/\e.1.1<5/\e.1.1∉m)) 5 (λk (b:Int)=>((l,m,d,b,(),(k:Int),()),(),r.1,())) (λ_ b=>b= -1\/(0<=b/\b<5/\b∉m)) (λb hb=>.end (Eb _) (.ret hb)) (λk b hk hb=>?_) (-1) (.inl rfl)) λy hy=>.ret hy;have hkk:0<=(k:Int)/\(k:Int)<5:=⟨D5 k,D7.2 hk⟩
 refine .go hkk.2 ?_;dsimp only;rw[(QB hm).1,ao,Cb (n:=5) (by decide) hk];refine .br (λ_=>.bind (ad0 hl hv k) λy _=>?_) (λh=>by cases h);rw[EE,(EY m k ml).1,(EY d k hd).1];refine .br (λ_=>.br (λ_=>.ret ⟨b,rfl,hb⟩) λhn=>.br (λ_=>.ret ⟨b,rfl,hb⟩) λ_=>?_) λ_=>.ret ⟨b,rfl,hb⟩;have hn: (k:Int)∉m:=of_decide_eq_false hn;refine .br (λ_=>.ret ⟨(k:Int),rfl,.inr ⟨hkk.1,hkk.2,hn⟩⟩) λh0=>?_;have h0: ¬b<0:=of_decide_eq_false h0;exact .bind (abt hl hv r.1 hr hkk (by omega)) λ_ _=>.br (λ_=>.ret ⟨(k:Int),rfl,.inr ⟨hkk.1,hkk.2,hn⟩⟩) λ_=>.ret ⟨b,rfl,hb⟩
omit hv in
theorem adW(m a:List Int)(hm:Oe m)(ha:Oe a)(want:Int):Tt (λy=>Oe y.1) (Kv l m a want):=by
 have am:a.length<=maxLen:=by have:=ha.len;unfold maxLen;omega
 obtain⟨v,v1,_⟩:=Nr l hl;have nil:Oe [] :=λk hk=>by simp at hk
 unfold Kv;rw[R8 m a hm am,UX _ a YK am,ao,ao,v1,ao,EE,(QB hm).1,(QB ha).1];refine .br (λe=>.br (λh=>by cases h) λ_=>.br (λh=>by cases h) λ_=>?_) λ_=>.ret nil;subst e;rw[FB,ao,EE];refine .br (λ_=>?_) λ_=>.ret nil;have dl:=(YK.filter λx=> !decide (x∈a)).len;have dm: (([0,1,2,3,4]:List Int).filter λx=> !decide (x∈a)).length<=maxLen:=by unfold maxLen;omega
 generalize ([0,1,2,3,4]:List Int).filter (λx=> !decide (x∈a))=dead at dm;refine .bind (.loop (B:=KJ) (E:=Sum.elim (λe=>Oe e.2.2.1) λe=>Oe e.2.2.1) (λs=>∃out:List Int,s=((l,want,(),(),()),(),out,dead,())/\Oe out) (λs=>(want-s.2.2.1.length).toNat) ?_ ⟨_,rfl,hm.filter _⟩) λy hy=>?_
 ·rintro _ ⟨out,rfl,ho⟩
  have ol:=ho.len;refine .br (λc=>?_) λ_=>.ret ho;have c: (out.length:Int)<want:=of_decide_eq_true c;refine .bind (abk hl v1 out dead ho dm) λn hn=>.br (λ_=>.ret ho) λh=>?_;have h: ¬n.1<0:=of_decide_eq_false h
  obtain⟨n0,n5,nm⟩:0<=n.1/\n.1<5/\n.1∉out:=by
   rcases hn with h'|h'
   ·omega
   ·exact h'
  obtain⟨r,r1,r2,r3,_,r5⟩:=abZ out n.1 (by omega) ho.pair;rw[show IM _ _=_ from r1,ao];refine .ret ⟨⟨r,rfl,PP r2 λy hy=>((r3 y).1 hy).elim (λe=>by rw[e];exact⟨n0,n5⟩) (Jc ho y)⟩,?_⟩;show (want-(r.length:Int)).toNat<(want-(out.length:Int)).toNat;have:=r5 nm;omega
 ·cases y with
  |inl y=>exact .ret hy
  |inr y=>exact .ret hy
end
theorem ac3(x:qh)(ok:EP 1048576 x)(want wit:Int):Tt (λy=>Gu 1048576 y.1) (J9 x want wit):=by
 have zero:Gu 1048576 ⟨0,0,[],[]⟩:=⟨bO _,bO _⟩
 obtain⟨v,v1,_⟩:=Fx x ok;unfold J9;rw[v1,ao,EE];refine .br (λe=>?_) λ_=>.ret zero;subst e;have vc:=EZ ok v1;rw[FB,ao,EE];refine .br (λ_=>?_) λ_=>.ret zero;rw[FB,ao,EE];refine .br (λ_=>.br (λ_=>.ret zero) λ_=>?_) λ_=>.ret zero;obtain⟨c,b,c1,c2,c3⟩:=adc x ok;obtain⟨r5,w5,inr,_,_,rasc⟩:=c3 vc;have rm:c.replicas.length<=maxLen:=by unfold maxLen;omega
 rw[adL x ok v1,ao,c1,ao];have up:=YO (V7 x) (n:=5) (by omega);generalize RG (V7 x) 5=u at up;have um:u.length<=maxLen:=by have:=up.len;unfold maxLen;omega
 refine .bind (.count (B:=K8) (E:=λe=>∃have':List Int,Oe have'/\e=((want,wit,(),(),(),(),(),()),(fx x,(0,0,(),(),()),(c.epoch,c.primary,(),(),()),()),u,have',c.replicas,c.witnesses,())) c.replicas.length (λk (b:List Int)=>((want,wit,(),(),(),(),(),(k:Int),()),(fx x,(0,0,(),(),()),(c.epoch,c.primary,(),(),()),()),u,b,c.replicas,c.witnesses,())) (λk b=>b.Sublist (c.replicas.take k)) (λb hb=>.end (Eb _) (.ret ⟨b,?_,rfl⟩)) (λk b hk hb=>?_) [] (List.nil_sublist _)) ?_
 ·rw[D9]at hb;exact PP (rasc.pair.sublist hb) λy hy=>inr y (hb.subset hy)
 ·have sw:=Cb rm hk;have st:b.Sublist (c.replicas.take (k+1)):=hb.trans (List.take_sublist_take_left (cL k));refine .go (D7.2 hk) (.ip ⟨D5 k,D7.2 hk⟩ (.get (tn hk) λz _ hz=>?_));rw[show FH _ _=_ from(EY u z um).1,ao];refine .br (λ_=>.ip ⟨D5 k,D7.2 hk⟩ (.get (tn hk) λz2 _ hz2=>.srv ok vc (inr z2 hz2) λs _ _ _=>.br (λ_=>.ip ⟨D5 k,D7.2 hk⟩ (.get (tn hk) λz3 e3 _=>?_)) λ_=>.ret ⟨b,by rw[sw],st⟩)) λ_=>.ret ⟨b,by rw[sw],st⟩;have e3:c.replicas[k]?=some z3:=e3
  have h2: (b++ [z3]).Sublist (c.replicas.take (k+1)):=by rw[Ee,e3];exact hb.append (List.Sublist.refl _)
  have h3:=h2.length_le;rw[cR]at h3;exact .ip (by show (b++ [z3]).length*8<=2 ^ 40;omega) (.ret ⟨b++ [z3],by rw[sw],h2⟩)
 ·rintro _ ⟨hv,ha,rfl⟩
  refine .bind (adW (EO ok.2.2.2) hv u ha up want) λp hp=>.br (λ_=>.ret zero) λh0=>?_;have pl:=hp.len
  have p0:0<p.1.length:=by
   rcases bo p.1.length with h|h
   ·rw[h]at h0;cases h0
   ·exact h
  refine .ip ⟨cW _,D7.2 p0⟩ (.get p0 λq _ _=>?_);rw[show FH _ _=_ from(EY p.1 c.primary (by unfold maxLen;omega)).1,ao];have fB:∀w:List Int,w.length<=1->∀ (e p':Int) (d:Bool),Tt (λy:nG×Bool×Unit=>Gu 1048576 y.1) (some (⟨e,p',p.1,w⟩,d,())):=λw hw _ _ _=>.ret ⟨by show p.1.length<=_;omega,by show w.length<=_;omega⟩
  extract_lets j43
  have h43:∀p',Tt (λy=>Gu 1048576 y.1) (j43 p'):=λp'=>by unfold j43;refine .br (λ_=>?_) λ_=>fB [] (by decide) _ _ _;rw[show F3 _ _=_ from UX _ u YK um,ao];refine .bind (abk (EO ok.2.2.2) vc.places p.1 _ hp ?_) λ_ _=>.br (λ_=>fB [_] (az 1) _ _ _) λ_=>fB [] (by decide) _ _ _;have:=(YK.filter λx=> !decide (x∈u)).len;exact aX this (by unfold maxLen;omega)
  refine .br (λ_=>?_) λ_=>h43 _;rw[show JD _=_ from Kd c c2,ao];exact .br (λ_=>h43 _) λ_=>h43 _
theorem aa6(x:qh)(ok:EP 1048576 x)(id t:Int):Tt (λy=>Kp x y.1) (Ka x id t):=by obtain⟨n,n1,n2⟩:=XH x ok id;unfold Ka;rw[(FO x ok).1,ao,n1,ao,EE];refine .br (λe=>?_) λ_=>.ret (.self ok);obtain⟨hv,h0,h5⟩:=n2 (eq_of_beq e);have vc:=EZ ok hv;have s5:=J3 (EO ok.2.1) vc.sides;refine .srv ok vc ⟨h0,h5⟩ λs _ s2 _=>?_;obtain⟨b,b1,_⟩:=Ob s id s2;rw[b1,ao,EE];refine .br (λ_=>.br (λ_=>.ret (.self ok)) λ_=>.ip h0 (.get (by omega) λ_ _ _=>?_)) λ_=>.ret (.self ok);rw[EE];refine .br (λ_=>?_) λ_=>.ret (.self ok);rw[EE];refine .br (λ_=>?_) λ_=>.ret (.self ok);obtain⟨l,d,g1,_⟩:=XW x.lease s.config.epoch id x.now t;rw[g1,ao,EE];exact .br (λ_=>.ret ⟨ok,rfl⟩) λ_=>.ret (.self ok)
theorem ab0(x:qh)(ok:EP 1048576 x)(want term:Int):Tt (λy=>Kp x y.1) (Kx x want term):=by unfold Kx;rw[(FO x ok).1,ao];refine .bind (SJ x ok) λv _=>?_;rw[EE];refine .br (λ_=>?_) λ_=>.ret (.self ok);rw[FB,ao,EE];refine .br (λ_=>.bind (YQ x ok) λ_ _=>.br (λ_=>.ret (.self ok)) λ_=>.bind (ac3 x ok want 0) λn hn=>?_) λ_=>.ret (.self ok);rw[EE];refine .br (λ_=>.bind (Sx x ok n.1 hn) λy hy=>?_) λ_=>.ret (.self ok);rw[EE];refine .br (λ_=>?_) λ_=>.ret (.self ok);obtain⟨t,t1,_⟩:=XG x.lease;rw[t1,ao];refine .bind (ac6 y.1 hy.1 _) λz hz=>?_;rw[EE];refine .br (λ_=>.bind (QA z.1 hz.1) λa ha=>?_) λ_=>.ret (.self ok);rw[EE];exact .br (λ_=>.bind (aa6 a.1 ha.1 _ _) λr hr=>.ret (hy.trans (hz.trans (ha.trans hr)))) λ_=>.ret (hy.trans (hz.trans ha))
theorem aeh(x:qh)(ok:EP 1048576 x)(to:Int):Tt (λy=>y.1=0->VC x) (G6 x to):=by obtain⟨c,b,c1,c2,c3⟩:=adc x ok;unfold G6;rw[c1,ao];refine .bind (SJ x ok) λv hv=>?_;rw[EE];refine .br (λh=>?_) λ_=>.ret nofun;have vc:=hv h;have s5:=J3 (EO ok.2.1) vc.sides;rw[EE];refine .br (λhb=>?_) λ_=>.ret nofun;obtain⟨r5,_,_,_,hp,_⟩:=c3 vc;have hp:=(hp hb).2;rw[(EY c.replicas to (by unfold maxLen;omega)).1,ao,EE];refine .br (λ_=>.br (λ_=>.ret nofun) λ_=>?_) λ_=>.ret nofun;rw[EE];refine .br (λ_=>.br (λ_=>.ret nofun) λ_=>.br (λ_=>.ret nofun) λ_=>.bind (YQ x ok) λ_ _=>?_) λ_=>.ret nofun;rw[EE];refine .br (λ_=>.ip hp.1 (.get (by show c.primary.toNat<x.sides.length;omega) λ_ _ _=>?_)) λ_=>.ret nofun;rw[EE];refine .br (λ_=>.br (λ_=>?_) λ_=>.ret λ_=>vc) λ_=>.ret nofun;rw[EE];exact .br (λ_=>.ret λ_=>vc) λ_=>.ret nofun
theorem aca(x:qh)(ok:EP 1048576 x)(to:Int):Tt (λy=>Kp x y.1) (FP x to):=by
 obtain⟨c,b,c1,c2,c3⟩:=adc x ok;unfold FP;rw[(FO x ok).1,ao];refine .bind (aeh x ok to) λn hn=>?_;rw[EE];refine .br (λh=>?_) λ_=>.ret (.self ok);obtain⟨r5,w5,_⟩:=c3 (hn (eq_of_beq h));rw[c1,ao];refine .bind (V8 x ok c.primary) λy hy=>?_;have hy':Kp x ⟨y.1.now,y.1.servers,y.1.sides,y.1.master,y.1.masterUp,⟨0,0,0⟩,y.1.places⟩:=⟨hy.1,hy.2⟩
 exact .bind (Sx _ hy'.1 ⟨_,to,c.replicas,c.witnesses⟩ ⟨by show c.replicas.length<=_;omega,by show c.witnesses.length<=_;omega⟩) λz hz=>.bind (QA z.1 hz.1) λw hw=>.ret (hy'.trans (hz.trans hw))
end
section
theorem Tt.byte{α:Type}{Q:α->Prop}{b:ByteArray}{i:Nat}{k:UInt8->Option α}(hi:i<b.size)(h:∀x,Tt Q (k x)):Tt Q ((b[i]?).bind k):=by rw[getElem?_pos b i hi];exact h _
theorem UH(b:Int): (BM ((([b]:List Int).drop 0).take ([b]:List Int).length)).size=1:=rfl
theorem Ji(n:Int)(h:n.natAbs<=1000):Tt (λy=>y.1.size<=1001) (G5 n):=by
 unfold G5;refine .br (λ_=>.ret (by decide)) λ_=>.bind (.loop (B:=Me) (E:=λe=>e.1.1.size<=1000) (λs=>s.1.2.1.size+s.1.1.natAbs<=1000) (λs=>s.1.1.natAbs) ?_ (by simpa using h)) λy hy=>.br (λ_=>.ip ?_ (.ret ?_)) λ_=>.ret (aX hy (by omega))
 ·rintro⟨⟨n,acc,neg,_⟩,_,_⟩ hs
  have hs:acc.size+n.natAbs<=1000:=hs;refine .br (λh0=>?_) λ_=>.ret (by show acc.size<=1000;omega);have h0:n≠0:=λe=>by rw[e]at h0;cases h0
  have ha: (Int.tdiv n 10).natAbs=n.natAbs / 10:=Int.natAbs_tdiv n 10;have hw:IntKind.wrap .i64 (Int.tdiv n 10)=Int.tdiv n 10:=vP (by omega) (by omega);dsimp only;rw[hw];refine .br (λ_=>.ip ⟨Nat.one_pos,az _⟩ (.ip (by rw[UH];omega) (.ret ⟨?_,?_⟩))) λ_=>.ip ⟨Nat.one_pos,az _⟩ (.ip (by rw[UH];omega) (.ret ⟨?_,?_⟩))
  all_goals first
   | (show (_++acc).size+(Int.tdiv n 10).natAbs<=1000;rw[ByteArray.size_append,UH];omega)
   | (show (Int.tdiv n 10).natAbs<n.natAbs;omega)
 ·show (⟨⟨[45]⟩⟩:ByteArray).size+y.1.1.size<=2 ^ 40;have : (⟨⟨[45]⟩⟩:ByteArray).size=1:=rfl;omega
 ·show ((⟨⟨[45]⟩⟩:ByteArray)++y.1.1).size<=1001;have : (⟨⟨[45]⟩⟩:ByteArray).size=1:=rfl;rw[ByteArray.size_append];omega
theorem adz{o:Op}(h:opB o=true): (0<=o.client/\o.client<=2)/\(1<=o.seq/\o.seq<=99)/\(0<=o.object/\o.object<=2)/\(0<=o.value/\o.value<=9)/\(o.kind≠1->0<=o.old/\o.old<=9):=by
 obtain⟨h1,h2,h4⟩:=adA h;have h3:=Zd (show FI o=some (true,()) by rw[Ps,h]);refine⟨EI.1 h1,EI.1 h2,h3,EI.1 h4,λhk=>?_⟩;have h0:FI o=some (true,()):=by rw[Ps,h]
 unfold FI at h0;simp only[FB,ao,h1,h2,h4,EI.2 h3,dg,Ce,beq_eq_false_iff_ne.2 hk]at h0;cases hk2: (o.kind==2)with
 |false=>rw[hk2]at h0;cases h0
 |true=>rw[hk2]at h0;simp only[C3,af,au,and_true]at h0;exact EI.1 h0
theorem Zr(o:Op):Tt (λy=>y.1.size<=10000) (NC o):=by
 unfold NC;rw[Ps,ao,EE];refine .br (λh=>?_) λ_=>.ret (by decide);obtain⟨n1,n2,n3,n4,n5⟩:=adz h;have e1: (⟨⟨[46]⟩⟩:ByteArray).size=1:=rfl;have e2: (⟨⟨[32]⟩⟩:ByteArray).size=1:=rfl;have e3: (⟨⟨[119,114,105,116,101,32]⟩⟩:ByteArray).size=6:=rfl;have e4: (⟨⟨[115,119,97,112,32]⟩⟩:ByteArray).size=5:=rfl;refine .bind (Ji _ (by omega)) λa ha=>.ip (by omega) (.bind (Ji _ (by omega)) λb hb=>.ip (by rw[ByteArray.size_append];omega) (.ip (by simp only[ByteArray.size_append];omega) (.br (λ_=>.ip (by simp only[ByteArray.size_append];omega) (.bind (Ji _ (by omega)) λc hc=>.ip (by simp only[ByteArray.size_append];omega) (.ip (by simp only[ByteArray.size_append];omega) (.bind (Ji _ (by omega)) λd hd=>.ip (by simp only[ByteArray.size_append];omega) (.ret ?_))))) λhk=>?_)))
 ·show ByteArray.size _<=_;simp only[ByteArray.size_append];omega
 ·have n5:=n5 λe=>by rw[e]at hk;cases hk
  refine .ip (by simp only[ByteArray.size_append];omega) (.bind (Ji _ (by omega)) λc hc=>.ip (by simp only[ByteArray.size_append];omega) (.ip (by simp only[ByteArray.size_append];omega) (.bind (Ji _ (by omega)) λd hd=>.ip (by simp only[ByteArray.size_append];omega) (.ip (by simp only[ByteArray.size_append];omega) (.bind (Ji _ (by omega)) λe he=>.ip (by simp only[ByteArray.size_append];omega) (.ret ?_))))));show ByteArray.size _<=_;simp only[ByteArray.size_append];omega
theorem XV(l:List rp)(hl:l.length<=maxLen):Tt (λy=>y.1.size<=1000000) (MA l):=by
 obtain⟨b,b1,b2⟩:=TU hl;unfold MA;rw[b1,ao,EE];refine .br (λe=>?_) λ_=>.ret (by decide);have h16:=b2 e;subst e;have hlog:=((OS l hl).1 b1).2;refine .br (λ_=>.ret (by decide)) λ_=>.bind (.count (B:=Mf) (E:=λe=>e.1.1.size<=1000000) l.length (λk (b:ByteArray)=>((l,b,(k:Int),()),(),())) (λk b=>b.size<=k*20000) (λb hb=>.end (Eb _) (.ret (by show b.size<=_;omega))) (λk b hk hb=>?_) ByteArray.empty (bO _)) λy hy=>.ret hy;have sw:=Cb hl hk;have e1: (⟨⟨[58]⟩⟩:ByteArray).size=1:=rfl;have e2: (⟨⟨[59]⟩⟩:ByteArray).size=1:=rfl;have hb:b.size<=k*20000:=hb;have hk2:k*20000<=16*20000:=bz _ (by omega);refine .go (D7.2 hk) (.br (λ_=>.ip (by rw[e2];show b.size+1<=_;omega) (.ip (D5 k) (.get (tn hk) λe he _=>.bind (Ji _ ?_) λy hy=>?_))) λ_=>.ip (D5 k) (.get (tn hk) λe he _=>.bind (Ji _ ?_) λy hy=>?_))
 case refine_1|refine_3=>have:=hlog k hk;unfold ZE at this;rw[show l[k]?=some e from he]at this;simp only[ak]at this;have:=EI.1 this.1;omega
 all_goals
  dsimp only;rw[sw];refine .ip (by first |omega| (simp only[ByteArray.size_append];omega)) (.ip (by simp only[ByteArray.size_append];omega) (.ip (D5 k) (.get (tn hk) λe2 _ _=>.bind (Zr e2.op) λz hz=>.ip (by simp only[ByteArray.size_append];omega) (.ret ⟨_,rfl,?_⟩))));simp only[ByteArray.size_append];omega
theorem Zm(b:ByteArray)(hb:b.size<=1000000):Tt T1 (NA b):=by unfold NA;exact .bind (.count (B:=M7) (E:=λ_=>True) b.size (λk (n:Int)=>((b,n,(k:Int),()),(),())) (λ_ _=>True) (λ_ _=>.end (Eb _) (.ret trivial)) (λk n hk _=>.go (D7.2 hk) (.ip (D5 k) (.byte hk λx=>.ret ⟨_,by rw[Cb (n:=b.size) (by unfold maxLen;omega) hk],trivial⟩))) 5 trivial) λ_ _=>.ret trivial
theorem Z4(l:List rp)(hl:l.length<=maxLen):Tt (λy=>y.1.length<=l.length+1/\y.1.length<=17) (Le l):=by
 obtain⟨b,b1,b2⟩:=TU hl;unfold Le;rw[b1,ao,EE];refine .br (λe=>?_) λ_=>.ret ⟨bO _,bO _⟩;have h16:=b2 e;refine .ip (by simp) (.bind (.count (B:=K6) (E:=λe=>e.2.2.1.length<=l.length+1/\e.2.2.1.length<=17) l.length (λk (b:Int×List Int)=>((l,(),b.1,(k:Int),()),(),b.2,())) (λk b=>b.2.length=k+1) (λb hb=>.end (Eb _) (.ret (by show b.2.length<=_/\b.2.length<=_;omega))) (λk b hk hb=>?_) (11,[11]) rfl) λy hy=>.ret hy);have sw:=Cb hl hk;refine .go (D7.2 hk) ?_;dsimp only;rw[sw];refine .ip ⟨D5 k,by omega,Int.ofNat_le.2 hk⟩ (.bind (XV _ (aX (by rw[cR,co];omega) hl)) λy hy=>.bind (Zm y.1 hy) λz _=>.ip ?_ (.ret ⟨(_,_),rfl,?_⟩))
 ·rw[bL,cy,hb];omega
 ·rw[bL,cy,hb]
theorem YN(l:List rp)(k:Int)(hl:l.length<=maxLen):Tt (λy=>y.1≠ -1->0<=k/\k<=(l.length:Int)) (LV l k):=by unfold LV;refine .bind (Z4 l hl) λy hy=>?_;rw[vP (n:=(y.1.length:Int)-1) (by omega) (by omega),FB,ao,EE];refine .br (λh=>?_) λ_=>.ret λh=>absurd rfl h;have h:=EI.1 h;exact .ip (by omega) (.get (by omega) λ_ _ _=>.ret λ_=>by omega)
theorem adF(x:qh)(ok:EP 1048576 x)(a b:Int):Tt (λy=>y.1=true->VC x/\(0<=a/\a<5)/\(0<=b/\b<5)) (MG x a b):=by
 unfold MG;refine .bind (SJ x ok) λv hv=>?_;rw[EE];refine .br (λh=>?_) λ_=>.ret nofun;have vc:=hv h;have h5:=J3 (EO ok.2.1) vc.sides
 have side:Tt (λy:Bool×Unit=>y.1=true->(0<=a/\a<5)/\(0<=b/\b<5)) (F5 x.sides a b):=by unfold F5;simp only[vc.sides,FB,ao,C3];refine .br (λha=>.br (λhb=>?_) λ_=>.ret nofun) λ_=>.ret nofun;have ha:=EI.1 ha;have hb:=EI.1 hb;exact .ip ha.1 (.get (by omega) λ_ _ _=>.ip hb.1 (.get (by omega) λ_ _ _=>.ret λ_=>by omega))
 refine .bind side λy hy=>?_;rw[EE];refine .br (λh=>?_) λ_=>.ret nofun;obtain⟨ha,hb⟩:=hy h;refine .br (λ_=>.ret nofun) λ_=>.srv ok vc ha λs _ s2 _=>?_;obtain⟨n,n1,_⟩:=Od s.config a (EK s2.1);obtain⟨m,m1,_⟩:=Od s.config b (EK s2.1);rw[n1,ao,m1];have good:∀d:Bool,Tt (λy:Bool×Unit=>y.1=true->VC x/\(0<=a/\a<5)/\(0<=b/\b<5)) (some (d,())):=λd=>.ret λ_=>⟨vc,ha,hb⟩
 exact .br (λ_=>.srv ok vc hb λ_ _ _ _=>.br (λ_=>.br (λ_=>.br (λ_=>good _) λ_=>good _) λ_=>.br (λ_=>.br (λ_=>good _) λ_=>good _) λ_=>good _) λ_=>good _) λ_=>good _
theorem adS(x:qh)(ok:EP 1048576 x)(a b:Int):Tt (λy=>0<=y.1->VC x/\(0<=a/\a<5)/\(0<=b/\b<5)/\∃s l,x.servers[a.toNat]?=some s/\Fl s=some (l,())/\l.length<=16/\y.1<=(l.length:Int)) (Kr x a b):=by
 unfold Kr;refine .bind (adF x ok a b) λv hv=>?_;rw[EE];refine .br (λh=>?_) λ_=>.ret λh=>absurd h (by decide);obtain⟨vc,ha,hb⟩:=hv h;refine .srv ok vc ha λs s1 s2 s3=>?_;obtain⟨⟨l,_⟩,l1,l2⟩:=TP s s2 (YI s2 s3);have l2:l.length<=16:=l2;rw[l1,ao];refine .srv ok vc hb λt _ t2 _=>.srv ok vc hb λu _ u2 _=>.bind (Q:=T1) ?_ λd _=>.bind (Q:=λy=>y.1=true->(t.learned.length:Int)<=(l.length:Int)) ?_ λp hp=>?_
 ·unfold KK;exact .bind (YN _ _ (EO u2.2.2)) λ_ _=>.ret trivial
 ·unfold Lm;refine .br (λhd=>.bind (YN l _ (by unfold maxLen;omega)) λy hy=>.ret λe=>?_) λ_=>.ret nofun;have hd:d.1≥0:=of_decide_eq_true hd;have e:=eq_of_beq e;exact(hy (by omega)).2
 ·have tl:=t2.2.2;rw[EE];refine .br (λe=>.ret λ_=>⟨vc,ha,hb,s,l,s1,l1,l2,?_⟩) λ_=>.ret λ_=>⟨vc,ha,hb,s,l,s1,l1,l2,?_⟩
  ·have:=hp e;show IntKind.wrap .i64 ((l.length:Int)-(t.learned.length:Int))<=_;rw[vP (by omega) (by omega)];omega
  ·show IntKind.wrap .i64 ((l.length:Int)-0)<=_;rw[vP (by omega) (by omega)];omega
theorem adf(x:qh)(ok:EP 1048576 x)(a b n:Int):Tt (λy=>Kp x y.1) (Ks x a b n):=by
 unfold Ks;rw[(FO x ok).1,ao];refine .bind (adS x ok a b) λy hy=>.br (λ_=>.ret (.self ok)) λh=>?_;have h: ¬y.1<0:=of_decide_eq_false h;obtain⟨vc,ha,hb,s,l,s1,l1,l2,le⟩:=hy (by omega);rw[FB,ao,EE];refine .br (λw=>.ip ha.1 ?_) λ_=>.ret (.self ok);have w:=EI.1 w;rw[s1,ao,l1,ao];dsimp only;have hm: (if n<y.1 then n else y.1)<=y.1/\0<=(if n<y.1 then n else y.1):=by split<;>omega
 generalize (if n<y.1 then n else y.1)=m at hm;rw[vP (n:=(l.length:Int)-y.1) (by omega) (by omega),vP (n:=(l.length:Int)-y.1+m) (by omega) (by omega)]
 have hl: ((l.drop (0+(0:Int).toNat)).take (((l.length:Int)-y.1+m).toNat-(0:Int).toNat)).length<=1048576:=by rw[cR,co];omega
 refine .ip (by omega) (.ip (by omega) ?_);rw[TQ hl,ao];exact .at vc.len hb λu _ hu=>.ret ((Kp.self ok).set (s:=⟨u.up,u.intact,u.version,u.epoch,u.config,u.first,u.log,u.commit,(l.drop (0+(0:Int).toNat)).take (((l.length:Int)-y.1+m).toNat-(0:Int).toNat)⟩) ⟨(ok.1.2 u hu).1,(ok.1.2 u hu).2.1,hl⟩ _)
theorem aaj{x y:qh}{n:Int}{r:Option (qh×Int×Unit)}(h:r=some (y,n,())/\EP 1048576 y/\y.servers.length=x.servers.length):Tt (λz=>Kp x z.1) r:=⟨_,h.1,h.2⟩
theorem ad5(x:qh)(ok:EP 1048576 x)(e:wT):Tt (λy=>Kp x y.1) (OP x e):=by obtain⟨_,_,c1⟩:=adh x ok e.server;obtain⟨_,_,c2⟩:=aa7 x ok e.server;obtain⟨_,_,c3⟩:=adT x ok e.server;obtain⟨_,_,c4⟩:=adU x ok e.server e.n;obtain⟨_,_,c5⟩:=aaW x ok e.n;unfold OP;refine .br (λ_=>.bind (aa6 x ok _ _) λy hy=>.ret hy) λ_=>.br (λ_=>.bind (ac3 x ok _ _) λn hn=>?_) λ_=>.br (λ_=>.bind (QA x ok) λy hy=>.ret hy) λ_=>.br (λ_=>.bind (aaj c1) λy hy=>.ret hy) λ_=>.br (λ_=>.bind (aaj c2) λy hy=>.ret hy) λ_=>.br (λ_=>.bind (aaj c3) λy hy=>.ret hy) λ_=>.br (λ_=>.bind (aaj c4) λy hy=>.ret hy) λ_=>.br (λ_=>.bind (aaj c5) λy hy=>.ret hy) λ_=>.br (λ_=>.bind (ac6 x ok _) λy hy=>.ret hy) λ_=>.br (λ_=>.bind (adf x ok _ _ _) λy hy=>.br (λ_=>.ret hy) λ_=>.ret hy) λ_=>.br (λ_=>.bind (abo x ok _) λy hy=>.ret hy) λ_=>.br (λ_=>.bind (XS x ok _) λy hy=>.ret hy) λ_=>.br (λ_=>.bind (aca x ok _) λy hy=>.ret hy) λ_=>.bind (ab0 x ok _ _) λy hy=>.ret hy;rw[EE];refine .br (λ_=>.bind (Sx x ok _ hn) λy hy=>.ret hy) λ_=>?_;rw[(FO x ok).1];exact .ret (.self ok)
theorem ad8(k:Int):Tt T1 (OQ k):=by
 unfold OQ
 repeat first |exact .ret trivial|refine .br (λ_=>?_) λ_=>?_
theorem abp(e:wT):Tt T1 (JP e):=by
 unfold JP;simp only[FB,ao,Ps];refine .br (λ_=>.ret trivial) λ_=>.br (λ_=>.ret trivial) λ_=>.br (λ_=>.ret trivial) λ_=>.br (λ_=>.ret trivial) λ_=>.bind (ad8 _) λ_ _=>?_
 repeat first |exact .ret trivial|refine .br (λ_=>?_) λ_=>?_
theorem ZQ(x:qh)(ok:EP 1048576 x)(e:wT):Tt (λy=>Kp x y.1) (NF x e):=by unfold NF;rw[(FO x ok).1];refine .bind (SJ x ok) λ_ _=>.br (λ_=>.ret (Kp.self ok)) λ_=>.bind (abp e) λ_ _=>.br (λ_=>.ret (Kp.self ok)) λ_=>.br (λ_=>.bind (abu x ok _ _) λy hy=>.ret hy) λ_=>.br (λ_=>?_) λ_=>.bind (ad5 x ok e) λy hy=>.ret hy;exact .bind (Q:=λy=>Kp x y.1) ⟨_,rfl,Kp.self ok⟩ λy hy=>.bind (Yk x ok _ _) λ_ _=>.ret hy
theorem YE(x:qh)(ok:EP 1048576 x)(l:List wT)(hl:l.length<=1048576):Tt (λy=>Kp x y.1/\y.2.1.length<=l.length) (MC x l):=by
 have lm:=EO hl;unfold MC;rw[(FO x ok).1,ao];refine .bind (.count (B:=Mi) (E:=λe=>∃ (c:qh) (r:List wX),Kp x c/\r.length<=l.length/\e=(((),(),(),()),(fz,fc c,()),r,c.servers,c.sides,c.master.configs,c.places,())) l.length (λk (b:qh×List wX)=>((l,(),(),(),(k:Int),()),(fz,fc b.1,()),b.2,b.1.servers,b.1.sides,b.1.master.configs,b.1.places,())) (λk b=>Kp x b.1/\b.2.length<=k) (λb hb=>.end (Eb _) (.ret ⟨b.1,b.2,hb.1,hb.2,rfl⟩)) (λk b hk hb=>.go (D7.2 hk) (.br (λ_=>.ip (D5 k) (.get (tn hk) λe _ _=>.bind (ZQ b.1 hb.1.1 e) λy hy=>.ip ?_ (.ret ⟨(y.1,b.2++ [y.2.1]),by rw[Cb lm hk],hb.1.trans hy,?_⟩))) λ_=>.ret ⟨b.1,b.2,hb.1,by omega,rfl⟩)) (x,[]) ⟨.self ok,az _⟩) ?_
 ·show (b.2++ [y.2.1]).length*32<=2 ^ 40;rw[bL,cy];omega
 ·rw[bL,cy];omega
 ·rintro _ ⟨c,r,hc,hr,rfl⟩
  exact .ret ⟨hc,hr⟩
end
section
section
variable [dE]
theorem Tt.dn{α β:Type}{Q:α->Prop}{Q':β->Prop}{r:Option (List qi×α)}{k:List qi×α->Option β}(h:Dn Q r)(hk:∀c a,F0 c->Q a->Tt Q' (k ([c],a))):Tt Q' (r.bind k):=by obtain⟨c,a,rfl,h1,h2⟩:=h;exact hk c a h1 h2
theorem Dn.tt{α β:Type}{Q:α->Prop}{Q':β->Prop}{r:Option α}{k:α->Option (List qi×β)}(h:Tt Q r)(hk:∀a,Q a->Dn Q' (k a)):Dn Q' (r.bind k):=by obtain⟨a,rfl,h⟩:=h;exact hk a h
theorem Z5{α:Type}{Q:α->Prop}{r:Option (List qi×α)}(h:Tt (λy=>∃c,y.1=[c]/\F0 c/\Q y.2) r):Dn Q r:=by obtain⟨⟨_,a⟩,rfl,c,rfl,h1,h2⟩:=h;exact⟨c,a,rfl,h1,h2⟩
theorem abh{c:qi}(h:F0 c):Dn (λy:List Int×Unit=>Oe y.1) (MH [c]):=by
 refine Z5 ?_;unfold MH;refine .bind (.count (B:=Pi) (E:=λe=>∃c,e.2.2.1=[c]/\F0 c/\Oe e.2.2.2.1) 5 (λk (b:qi×List Int)=>(((),(),(k:Int),()),(),[b.1],b.2,())) (λk b=>F0 b.1/\b.2.length<=k/\SS b.2/\∀y∈b.2,0<=y/\y<(k:Int)) (λb hb=>.end (Eb _) (.ret ⟨b.1,rfl,hb.1,PP hb.2.2.1 hb.2.2.2⟩)) (λk b hk hb=>?_) (c,[]) ⟨h,az _,List.Pairwise.nil,nofun⟩) λy hy=>.ret hy;obtain⟨h1,h2,h3,h4⟩:=hb;have sw:=Cb (n:=5) (by decide) hk;have stay:∀y∈b.2,0<=y/\y<((k+1:Nat):Int):=λy hy=>by have:=h4 y hy;omega
 refine .go (show (k:Int)<5 by omega) (.dn (IP h1 2) λc1 _ hc _=>.ip rfl (.br (λ_=>.ip (by show (b.2++ [(k:Int)]).length*8<=2 ^ 40;rw[bL,cy];omega) (.ret ⟨(c1,b.2++ [(k:Int)]),by rw[sw],hc,by rw[bL,cy];omega,?_,λy hy=>?_⟩)) λ_=>.ret ⟨(c1,b.2),by rw[sw],hc,Ef h2,h3,stay⟩))
 ·exact Ei.2 ⟨h3,Er _ _,λy hy z hz=>by rw[aL.1 hz];exact(h4 y hy).2⟩
 ·rcases bC.1 hy with hy|hy
  ·exact stay y hy
  ·rw[aL.1 hy];omega
omit [dE]in
theorem aa2{l:List uQ}(h5:l.length=5)(h:∀p∈l,(0<=p.rack/\p.rack<=9)/\(0<=p.capacity/\p.capacity<=9)/\0<=p.load/\p.load<=99):FG l=some (true,()):=by
 have lm:l.length<=maxLen:=by unfold maxLen;omega
 have fB:Tt (λy:Bool×Unit=>y.1=true) (FG l):=by
  unfold FG;refine .bind (.count (B:=IC) (E:=Sum.elim (λ_=>False) λe=>e.1.1=l) l.length (λk (_:Unit)=>((l,(k:Int),()),(),())) (λ_ _=>True) (λ_ _=>.end (Eb _) (.ret rfl)) (λk _ hk _=>.go (D7.2 hk) (.ip (D5 k) (.get (tn hk) λp _ hp=>?_))) () trivial) λy hy=>?_
  ·obtain⟨h1,_⟩:=h p hp;rw[FB,EI.2 h1,ao];refine .br (λh=>by cases h) λ_=>.ip (D5 k) (.get (tn hk) λq _ hq=>?_);obtain⟨_,h2,_⟩:=h q hq;rw[FB,EI.2 h2,ao];refine .br (λh=>by cases h) λ_=>.ip (D5 k) (.get (tn hk) λr _ hr=>?_);obtain⟨_,_,h3⟩:=h r hr;rw[FB,EI.2 h3,ao];exact .br (λh=>by cases h) λ_=>.ret ⟨(),by rw[Cb lm hk],trivial⟩
  ·cases y with
   |inl y=>exact hy.elim
   |inr y=>refine .ret ?_;show ((y.1.1.length:Int)==5)=true;rw[show y.1.1=l from hy,h5];rfl
 obtain⟨⟨b,_⟩,e,rfl⟩:=fB;exact e
theorem Ze{c:qi}(h:F0 c):Dn (λy:List uQ×Unit=>y.1.length=5/\FG y.1=some (true,())) (L4 [c]):=by
 refine Z5 ?_;unfold L4;refine .bind (.count (B:=M8) (E:=λe=>∃c,e.2.2.1=[c]/\F0 c/\e.2.2.2.1.length=5/\FG e.2.2.2.1=some (true,())) 5 (λk (b:qi×List uQ)=>(((),(),(k:Int),()),(),[b.1],b.2,())) (λk b=>F0 b.1/\b.2.length=k/\∀p∈b.2,(0<=p.rack/\p.rack<=9)/\(0<=p.capacity/\p.capacity<=9)/\0<=p.load/\p.load<=99) (λb hb=>.end (Eb _) (.ret ⟨b.1,rfl,hb.1,hb.2.1,aa2 hb.2.1 hb.2.2⟩)) (λk b hk hb=>?_) (c,[]) ⟨h,rfl,nofun⟩) λy hy=>.ret hy;obtain⟨h1,h2,h3⟩:=hb;refine .go (show (k:Int)<5 by omega) (.dn (Kj h1 (n:=4) (by omega)) λc1 x g1 hx=>.ip rfl (.dn (Kj g1 (n:=4) (by omega)) λc2 y g2 hy=>.ip rfl (.dn (Kj g2 (n:=4) (by omega)) λc3 z g3 hz=>.ip rfl (.ip ?_ (.ret ⟨(c3,b.2++ [⟨x.1,1+y.1,z.1⟩]),?_,g3,by rw[bL,cy,h2],λp hp=>?_⟩)))))
 ·rw[bL,cy,show List.length _=k from h2];omega
 ·dsimp only;rw[Cb (n:=5) (by decide) hk,vP (n:=1+y.1) (by omega) (by omega)]
 ·rcases bC.1 hp with hp|hp
  ·exact h3 p hp
  ·rw[aL.1 hp];show (0<=x.1/\x.1<=9)/\(0<=1+y.1/\1+y.1<=9)/\0<=z.1/\z.1<=99;omega
omit [dE]in
theorem Zc(v:Int):Tt (λy=>Fs 1048576 y.1) (K0 v):=by
 unfold K0;rw[FB,ao];have ok:∀v:Int,Fs 1048576 ⟨true,true,v,0,⟨0,0,[],[]⟩,0,[],0,[]⟩:=λ_=>⟨⟨bO _,bO _⟩,bO _,bO _⟩
 exact .br (λ_=>.ret (ok _)) λ_=>.ret (ok _)
omit [dE]in
theorem adv(l:List uQ)(hl:l.length<=1048576):Tt (λy=>EP 1048576 y.1/\(FG l=some (true,())->y.1.servers.length=5)) (Lk l):=by
 obtain⟨v,v1,_⟩:=Nr l (EO hl);unfold Lk;rw[v1,ao,EE];refine .br (λe=>.ip (by decide) (.ip ?_ (.bind (.count (B:=K7) (E:=λe=>∃S:List qk,S.length=5/\(∀s∈S,Fs 1048576 s)/\e=(((),(),()),(fz,(0,(),(),(),0,3,0,0,0,(),()),()),S,List.replicate (5:Int).toNat (0:Int),[] ++l,())) 5 (λk (S:List qk)=>(((),(),(k:Int),()),(fz,(0,(),(),(),0,3,0,0,0,(),()),()),S,List.replicate (5:Int).toNat (0:Int),[] ++l,())) (λk S=>S.length=k/\∀s∈S,Fs 1048576 s) (λS hS=>.end (Eb _) (.ret ⟨S,hS.1,hS.2,rfl⟩)) (λk S hk hS=>.go (show (k:Int)<5 by omega) (.bind (Zc 1) λs hs=>.ip ?_ (.ret ⟨S++ [s.1],by rw[Cb (n:=5) (by decide) hk],by rw[bL,cy,hS.1],λt ht=>?_⟩))) [] ⟨rfl,nofun⟩) ?_))) λ_=>.ret ⟨⟨⟨bO _,nofun⟩,bO _,⟨bO _,nofun⟩,bO _⟩,λe=>by simp_all⟩
 ·rw[bG];omega
 ·rw[bL,cy,show List.length _=k from hS.1];omega
 ·exact(bC.1 ht).elim (hS.2 t) λe=>by rw[aL.1 e];exact hs
 ·rintro _ ⟨S,h5,hS,rfl⟩
  exact .ret ⟨⟨⟨by show S.length<=_;omega,hS⟩,by show (List.replicate (5:Int).toNat (0:Int)).length<=_;decide,⟨bO _,nofun⟩,hl⟩,λ_=>h5⟩
omit [dE]in
theorem ZZ{e p:Int}{R W:List Int}(he:1<=e/\e<=20)(hR:Oe R)(hW:Oe W)(hp:p∈R)(hd:∀y∈R,y∉W):EH ⟨e,p,R,W⟩=some (true,()):=by have hr:=hR.len;have hw:=hW.len;unfold EH;simp only[FB,EI.2 he,ao,C3,(QB hR).1,(QB hW).1,(EY R p (by unfold maxLen;omega)).1,decide_eq_true hp,R8 R W hR (by unfold maxLen;omega)];rw[List.filter_eq_nil_iff.2 λy hy h=>hd y hy (of_decide_eq_true h)];rfl
theorem adg{c:qi}(h:F0 c)(e:Int):Dn (λy:nG×Unit=>y.1.epoch=e/\y.1.replicas.length<=5/\y.1.witnesses.length<=5/\(1<=e/\e<=20->EH y.1=some (true,()))) (KQ [c] e):=by
 unfold KQ;refine .bind (Kj h (n:=5) (by omega)) λc1 p h1 hp=>.iteP rfl (.bind (abh h1) λc2 l h2 hl=>.iteP rfl ?_);obtain⟨r,r1,r2,r3,_⟩:=abZ l.1 p.1 (by have:=hl.len;omega) hl.pair;rw[show IM _ _=_ from r1,ao]
 have fB:∀R:List Int,Oe R->p.1∈R->Dn (λy:nG×Unit=>y.1.epoch=e/\y.1.replicas.length<=5/\y.1.witnesses.length<=5/\(1<=e/\e<=20->EH y.1=some (true,()))) ((Gs [c2] 2).bind λy5=>iteP (y5.1.length=([c2]:List qi).length) (br y5.2.1 ((MH y5.1).bind λy6=>iteP (y6.1.length=y5.1.length) ((F3 y6.2.1 R).bind λy7=>br (decide ((y7.1.length:Int)>0)) (iteP (0<=(0:Int)/\(0:Int)<=(1:Int)/\(1:Int)<=((y7.1.length:Nat):Int)) (iteP ((0+(0:Int).toNat)=0/\((1:Int).toNat-(0:Int).toNat)<=y7.1.length) (some (y6.1,(⟨e,p.1,R,(y7.1.take ((1:Int).toNat-(0:Int).toNat))⟩:nG),())) (iteP ((0+(0:Int).toNat)+((1:Int).toNat-(0:Int).toNat)<=y7.1.length) (some (y6.1,(⟨e,p.1,R,((y7.1.drop (0+(0:Int).toNat)).take ((1:Int).toNat-(0:Int).toNat))⟩:nG),())) none)) none) (some (y6.1,(⟨e,p.1,R,([]:List Int)⟩:nG),()))) none) (some (y5.1,(⟨e,p.1,R,([]:List Int)⟩:nG),()))) none):=λR hR hpR=>by
  have nil:Oe [] :=λk hk=>by simp at hk
  have rl:=hR.len;refine .bind (IP h2 2) λc3 _ h3 _=>.iteP rfl (.br (λ_=>.bind (abh h3) λc4 w h4 hw=>.iteP rfl ?_) λ_=>.ret h3 ⟨rfl,rl,bO _,λhe=>ZZ he hR nil hpR λ_ _=>nofun⟩);rw[show F3 _ _=_ from UX w.1 R hw (by unfold maxLen;omega),ao];have hf:=hw.filter λx=> !decide (x∈R)
  have hn:∀y∈R,y∉w.1.filter λx=> !decide (x∈R):=λy hy h=>by have:=(Et.1 h).2;simp[hy]at this
  have fl:=hf.len;generalize w.1.filter (λx=> !decide (x∈R))=f at hf hn fl;refine .br (λhpos=>?_) λ_=>.ret h4 ⟨rfl,rl,bO _,λhe=>ZZ he hR nil hpR λ_ _=>nofun⟩;have hpos: (f.length:Int)>0:=of_decide_eq_true hpos;refine .iteP (by show (0:Int)<=0/\(0:Int)<=1/\(1:Int)<=(f.length:Int);omega) (.iteP (by show 0=0/\1<=f.length;omega) (.ret h4 ⟨rfl,rl,?_,λhe=>ZZ he hR ?_ hpR λy hy h=>hn y hy (bS h)⟩))
  ·show (f.take _).length<=5;rw[cR];omega
  ·exact PP (hf.pair.sublist (List.take_sublist _ _)) λy hy=>Jc hf y (bS hy)
 have ra:Oe r:=PP r2 λy hy=>((r3 y).1 hy).elim (λe=>by rw[e];exact hp) (Jc hl y);refine .br (λ_=>fB [p.1] (PP (Er _ _) λy hy=>by rw[aL.1 hy];exact hp) (aL.2 rfl)) λ_=>fB r ra ((r3 _).2 (.inl rfl))
omit [dE]in
theorem adt{M:jZ}(h:Md 1048576 M)(hl:M.configs.length<=1000){c:nG}(hc:Gu 1048576 c):Md 1048576 ⟨M.configs++ [c],M.activated⟩:=⟨by show (M.configs++ [c]).length<=_;rw[bL,cy];omega,λd hd=>(bC.1 hd).elim (h.2 d) λe=>by rw[aL.1 e];exact hc⟩
theorem adM{c:qi}(h:F0 c):Dn (λy:List Int×Unit=>y.1.length<=6) (QG [c]):=by
 unfold QG;refine .bind (abh h) λc1 l h1 hl=>.iteP rfl (.bind (IP h1 _) λc2 _ h2 _=>.iteP rfl (.br (λ_=>.bind (HL h2 (by simp)) λc3 x h3 _=>.iteP rfl ?_) λ_=>.ret h2 ?_))
 ·have:=hl.len;refine .iteP ?_ (.ret h3 ?_)
  ·show (l.1++ [x.1]).length*8<=2 ^ 40;rw[bL,cy];omega
  ·show (l.1++ [x.1]).length<=6;rw[bL,cy];omega
 ·exact aX hl.len (by omega)
theorem ZY{c:qi}(h:F0 c):Dn (λy:nG×Unit=>Gu 1048576 y.1) (QI [c]):=by
 unfold QI;refine .bind (GC h _) λc1 e h1 _=>.iteP rfl (.bind (adg h1 _) λc2 g h2 hg=>.iteP rfl (.bind (GC h2 _) λc3 x h3 _=>.iteP rfl ?_));obtain⟨_,g1,g2,_⟩:=hg;have ok:Gu 1048576 g.1:=⟨by omega,by omega⟩
 refine .br (λ_=>.bind (HL h3 (by simp)) λc4 _ h4 _=>.iteP rfl (.ret h4 ok)) λ_=>.br (λ_=>.bind (GC h3 _) λc4 _ h4 _=>.iteP rfl (.ret h4 ok)) λ_=>.br (λ_=>.bind (adM h3) λc4 l h4 hl=>.iteP rfl (.ret h4 ⟨by show l.1.length<=_;omega,ok.2⟩)) λ_=>.br (λ_=>.bind (adM h3) λc4 l h4 hl=>.iteP rfl (.ret h4 ⟨ok.1,by show l.1.length<=_;omega⟩)) λ_=>.ret h3 ok
theorem aeg{c:qi}(h:F0 c):Dn (λy:jZ×Unit=>Md 1048576 y.1/\y.1.configs.length<=10) (PS [c]):=by
 unfold PS;refine .bind (Kj h (n:=5) (by omega)) λc1 n h1 hn=>.iteP rfl (Z5 (.bind (.loop (B:=Pg) (E:=λe=>∃c,e.2.2.1=[c]/\F0 c/\Md 1048576 ⟨e.2.2.2.1,e.2.1.2.1.2.1⟩/\e.2.2.2.1.length<=10) (λs=>∃ (c:qi) (M:jZ) (k:Int),s=(((),(),(),k,()),(((),0,()),((),M.activated,()),()),[c],M.configs,())/\F0 c/\Md 1048576 M/\0<=k/\M.configs.length+k.toNat<=10) (λs=>s.1.2.2.2.1.toNat) ?_ ⟨c1,⟨[],0⟩,n.1,rfl,h1,⟨bO _,nofun⟩,hn.1,by show 0+n.1.toNat<=10;omega⟩) λy hy=>.ret hy))
 rintro _ ⟨c,M,k,rfl,hc,hM,h0,hl⟩
 refine .br (λhk=>?_) λ_=>.ret ⟨c,rfl,hc,hM,by show M.configs.length<=10;omega⟩;have hk:k>0:=of_decide_eq_true hk;have hw:IntKind.wrap .i64 (k-1)=k-1:=vP (by omega) (by omega);refine .dn (adg hc _) λc2 g h2 hg=>.ip rfl (.bind (Td M hM g.1 ⟨by omega,by omega⟩) λm hm=>.dn (IP h2 _) λc3 _ h3 _=>.ip rfl (.br (λ_=>.bind (XK m.1 hm.1 _) λa ha=>.ret ⟨⟨c3,a.1,k-1,by dsimp only;rw[hw],h3,ha.1,by omega,by omega⟩,?_⟩) λ_=>.ret ⟨⟨c3,m.1,k-1,by dsimp only;rw[hw],h3,hm.1,by omega,by omega⟩,?_⟩))
 all_goals
  show (IntKind.wrap .i64 (k-1)).toNat<k.toNat;rw[hw];omega
theorem aea{c:qi}(h:F0 c):Dn (λy:jZ×Unit=>Md 1048576 y.1) (PR [c]):=by unfold PR;refine .bind (aeg h) λc1 m h1 hm=>.iteP rfl (.bind (GC h1 _) λc2 _ h2 _=>.iteP rfl (.br (λ_=>.bind (HL h2 (by simp)) λc3 _ h3 _=>.iteP rfl (.ret h3 hm.1)) λ_=>.br (λ_=>.bind (ZY h2) λc3 g h3 hg=>.iteP rfl (.iteP ?_ (.ret h3 (adt hm.1 (by omega) hg)))) λ_=>.ret h2 hm.1));show (m.1.configs++ [g.1]).length*64<=2 ^ 40;rw[bL,cy];omega
omit [dE]in
theorem aaX(c:nG)(h:Gu maxLen c)(hv:EH c=some (true,())):Tt (λy=>0<y.1.length/\y.1.length<=10) (Fd c):=by unfold Fd;rw[hv,ao];refine .br (λh=>by cases h) λ_=>?_;obtain⟨a1,a2,a3,_⟩:=Gq h hv;have l1:=a1.len;have l2:=a2.len;obtain⟨r,r1,_,r4,r5⟩:=YF c.replicas c.witnesses (by omega) (by omega);rw[r1];exact .ret ⟨List.length_pos_of_mem ((r4 c.primary).2 (.inl a3)),by show r.length<=10;omega⟩
omit [dE]in
theorem aed(l:List rp)(e:Int)(hl:l.length<=1048576):Tt (λy=>y.1.length<=1048576) (PV l e):=by
 unfold PV;refine .bind (.count (B:=Ph) (E:=λy=>∃k:Nat,k<=l.length/\y=((l,(k:Int),()),(),())) l.length (λk (_:Unit)=>((l,e,(k:Int),()),(),())) (λ_ _=>True) (λ_ _=>.end (Eb _) (.ret ⟨l.length,az _,rfl⟩)) (λk _ hk _=>.go (D7.2 hk) (.ip (D5 k) (.get (tn hk) λ_ _ _=>.br (λ_=>.ret ⟨(),by rw[Cb (EO hl) hk],trivial⟩) λ_=>.ret ⟨k,Nat.le_of_lt hk,rfl⟩))) () trivial) ?_
 rintro _ ⟨k,hk,rfl⟩
 have h2: ((l.drop (0:Int).toNat).take ((k:Int).toNat-(0:Int).toNat)).length<=1048576:=by rw[cR,co];omega
 exact .ip ⟨cW _,D5 k,Int.ofNat_le.2 hk⟩ (.bind (Q:=λy=>y.1.length<=1048576) ⟨_,TQ h2,h2⟩ λy hy=>.ret hy)
theorem ab2{c:qi}(h:F0 c):Dn (λy:qk×Int×Unit=>Fs 1048576 y.1) (MF [c]):=by
 unfold MF;refine .bind (GC h _) λc1 _ h1 _=>.iteP rfl (.tt (Zc _) λs hs=>.bind (Kj h1 (n:=3) (by omega)) λc2 e h2 he=>.iteP rfl (.bind (adg h2 _) λc3 g h3 hg=>.iteP rfl ?_));have hw:IntKind.wrap .i64 (1+e.1)=1+e.1:=vP (by omega) (by omega);obtain⟨g0,g1,g2,g3⟩:=hg;have g3:=g3 (by rw[hw];omega);have okc:Gu 1048576 g.1:=⟨by omega,by omega⟩
 refine .tt (aaX g.1 (EK okc) g3) λm hm=>.bind (Kj h3 (n:=(m.1.length:Int)) (by omega)) λc4 i h4 hi=>.iteP rfl (.iteP hi (.get (by show i.1.toNat<m.1.length;omega) λz _=>.bind (IP h4 _) λc5 _ h5 _=>.iteP rfl ?_))
 have fin:∀ (c6:qi) (t:qk),F0 c6->Fs 1048576 t->∀up:Bool,Dn (λy:qk×Int×Unit=>Fs 1048576 y.1) ((Gs [c6] 4).bind λy46=>iteP (y46.1.length=([c6]:List qi).length) (br y46.2.1 ((EJ y46.1 3).bind λy47=>iteP (y47.1.length=y46.1.length) ((Hq (⟨up,t.intact,t.version,t.epoch,t.config,t.first,t.log,t.commit,t.learned⟩:qk) (IntKind.wrap .i64 (4+y47.2.1))).bind λy48=>some (y47.1,y48.1,z,())) none) (some (y46.1,(⟨up,t.intact,t.version,t.epoch,t.config,t.first,t.log,t.commit,t.learned⟩:qk),z,()))) none):=λc6 t h6 ht up=>.bind (IP h6 _) λc7 _ h7 _=>.iteP rfl (.br (λ_=>.bind (GC h7 _) λc8 _ h8 _=>.iteP rfl (.tt (aa9 ⟨up,t.intact,t.version,t.epoch,t.config,t.first,t.log,t.commit,t.learned⟩ _ ht) λu hu=>.ret h8 hu)) λ_=>.ret h7 ht)
 rw[EE];refine .br (λ_=>.bind (IP h5 _) λc6 _ h6 _=>.iteP rfl (.br (λ_=>fin c6 s.1 h6 hs _) λ_=>fin c6 s.1 h6 hs _)) λ_=>.bind (aaw h5) λc6 l h6 hl=>.iteP rfl (.tt (aed l.1 _ (by omega)) λl2 hl2=>.tt (aaf s.1 g.1 z l2.1 hs okc hl2) λt ht=>.bind (IP h6 _) λc7 _ h7 _=>.iteP rfl (.br (λ_=>fin c7 t.1 h7 ht _) λ_=>fin c7 t.1 h7 ht _))
theorem ZR{c:qi}(h:F0 c):Dn (λy:qk×Int×Unit=>Fs 1048576 y.1) (PU [c]):=by unfold PU;refine .bind (ab2 h) λc1 s h1 hs=>.iteP rfl (.bind (GC h1 _) λc2 _ h2 _=>.iteP rfl ?_);refine .br (λ_=>.bind (HL h2 (by simp)) λc3 _ h3 _=>.iteP rfl (.ret h3 hs)) λ_=>.br (λ_=>.bind (HL h2 (by simp)) λc3 _ h3 _=>.iteP rfl (.ret h3 hs)) λ_=>.br (λ_=>.bind (ZY h2) λc3 g h3 hg=>.iteP rfl (.ret h3 ⟨hg,hs.2⟩)) λ_=>.br (λ_=>.bind (HL h2 (by simp)) λc3 _ h3 _=>.iteP rfl (.ret h3 hs)) λ_=>.br (λ_=>.bind (HL h2 (by simp)) λc3 _ h3 _=>.iteP rfl (.ret h3 hs)) λ_=>.br (λ_=>.bind (GC h2 _) λc3 _ h3 _=>.iteP rfl (.ret h3 hs)) λ_=>.br (λ_=>.bind (ZD h2) λc3 l h3 hl=>.iteP rfl (.ret h3 ⟨hs.1,by show l.1.length<=_;omega,hs.2.2⟩)) λ_=>.ret h2 hs
theorem abf{c:qi}(h:F0 c):Dn (λy:List Int×Unit=>y.1.length<=5) (PX [c]):=by
 unfold PX;refine .bind (abg h) λc1 l h1 hl=>.iteP rfl (.bind (GC h1 _) λc2 _ h2 _=>.iteP rfl (.br (λ_=>?_) λ_=>.br (λ_=>.bind (HL h2 (by simp)) λc3 x h3 _=>.iteP rfl (.iteP ?_ (.get ?_ λ_ _=>.ret h3 ?_))) λ_=>.ret h2 (Eo hl)))
 ·have hl:l.1.length=5:=hl;refine .iteP (by show (0:Int)<=1/\(1:Int)<=(l.1.length:Int)/\(l.1.length:Int)<=(l.1.length:Int);omega) ?_;rw[Cy,if_neg (by intro h;exact absurd h.1 (by decide))];refine .iteP (by show 0+(1:Int).toNat+((l.1.length:Int).toNat-(1:Int).toNat)<=l.1.length;omega) (.ret h2 ?_);show ((l.1.drop (0+(1:Int).toNat)).take ((l.1.length:Int).toNat-(1:Int).toNat)).length<=5;rw[cR,co];omega
 ·have hl:l.1.length=5:=hl;show (0:Int)<=1/\(1:Int)<(l.1.length:Int);omega
 ·have hl:l.1.length=5:=hl;show (1:Int).toNat<l.1.length;omega
 ·show (l.1.set _ _).length<=5;rw[D8];exact Eo hl
theorem ZK{c:qi}(h:F0 c):Dn (λy:List uQ×Unit=>y.1.length<=5) (RF [c]):=by
 unfold RF;refine .bind (Ze h) λc1 l h1 hl=>.iteP rfl (.bind (GC h1 _) λc2 _ h2 _=>.iteP rfl ?_);have hl:l.1.length=5:=hl.1;refine .br (λ_=>?_) λ_=>.br (λ_=>.bind (HL h2 (by simp)) λc3 x h3 _=>.iteP rfl (.iteP (by show (0:Int)<=0/\(0:Int)<(l.1.length:Int);omega) (.get (by show (0:Int).toNat<l.1.length;omega) λ_ _=>.ret h3 ?_))) λ_=>.br (λ_=>.bind (HL h2 (by simp)) λc3 x h3 _=>.iteP rfl (.iteP (by show (0:Int)<=1/\(1:Int)<(l.1.length:Int);omega) (.get (by show (1:Int).toNat<l.1.length;omega) λ_ _=>.ret h3 ?_))) λ_=>.ret h2 (Eo hl)
 ·refine .iteP (by show (0:Int)<=1/\(1:Int)<=(l.1.length:Int)/\(l.1.length:Int)<=(l.1.length:Int);omega) ?_;rw[Cy,if_neg (by intro h;exact absurd h.1 (by decide))];refine .iteP (by show 0+(1:Int).toNat+((l.1.length:Int).toNat-(1:Int).toNat)<=l.1.length;omega) (.ret h2 ?_);show ((l.1.drop (0+(1:Int).toNat)).take ((l.1.length:Int).toNat-(1:Int).toNat)).length<=5;rw[cR,co];omega
 ·show (l.1.set _ _).length<=5;rw[D8];omega
 ·show (l.1.set _ _).length<=5;rw[D8];omega
theorem Z0{c:qi}(h:F0 c):Dn (λy:qh×Unit=>EP 1048576 y.1/\y.1.servers.length=5) (Lp [c]):=by unfold Lp;refine .bind (Ze h) λc1 l h1 hl=>.iteP rfl (.tt (adv l.1 (by have:=hl.1;omega)) λx hx=>.bind (Zq h1 (by omega) (by omega)) λc2 e h2 he=>.iteP rfl (.tt (YE x.1 hx.1 e.1 (by omega)) λy hy=>.ret h2 ⟨hy.1.1,hy.1.2.trans (hx.2 hl.2)⟩))
theorem XM{c:qi}(h:F0 c):Dn (λy:qh×Unit=>EP 1048576 y.1/\y.1.servers.length=5) (PY [c]):=by unfold PY;refine .bind (Z0 h) λc1 x h1 hx=>.iteP rfl (.bind (GC h1 _) λc2 _ h2 _=>.iteP rfl ?_);obtain⟨⟨x1,x2,x3,x4⟩,x5⟩:=hx;refine .br (λ_=>.bind (HL h2 (by simp)) λc3 _ h3 _=>.iteP rfl (.ret h3 ⟨⟨x1,x2,x3,x4⟩,x5⟩)) λ_=>.br (λ_=>.bind (abf h2) λc3 l h3 hl=>.iteP rfl (.ret h3 ⟨⟨x1,by show l.1.length<=_;omega,x3,x4⟩,x5⟩)) λ_=>.br (λ_=>.bind (aea h2) λc3 m h3 hm=>.iteP rfl (.ret h3 ⟨⟨x1,x2,hm,x4⟩,x5⟩)) λ_=>.br (λ_=>.bind (HL h2 (by simp)) λc3 _ h3 _=>.iteP rfl (.ret h3 ⟨⟨x1,x2,x3,x4⟩,x5⟩)) λ_=>.br (λ_=>.bind (aav h2) λc3 _ h3 _=>.iteP rfl (.ret h3 ⟨⟨x1,x2,x3,x4⟩,x5⟩)) λ_=>.br (λ_=>.bind (ZK h2) λc3 l h3 hl=>.iteP rfl (.ret h3 ⟨⟨x1,x2,x3,by show l.1.length<=_;omega⟩,x5⟩)) λ_=>.br (λ_=>.bind (ZR h2) λc3 s h3 hs=>.iteP rfl (.bind (Kj h3 (n:=5) (by omega)) λc4 i h4 hi=>.iteP rfl (.iteP (by show 0<=i.1/\i.1<(x.1.servers.length:Int);rw[x5];exact hi) (.get (by show i.1.toNat<x.1.servers.length;omega) λ_ _=>.ret h4 ⟨⟨Rj x1 hs _,x2,x3,x4⟩,by show (x.1.servers.set _ _).length=5;rw[D8];exact x5⟩)))) λ_=>.ret h2 ⟨⟨x1,x2,x3,x4⟩,x5⟩
omit [dE]in
end
end
section
theorem Tt.tru{r:Option (Bool×Unit)}(h:Tt (λy=>y.1=true) r):r=some (true,()):=by obtain⟨⟨b,_⟩,e,rfl⟩:=h;exact e
theorem Tt.is{α:Type}{Q:α->Prop}{r:Option α}{a:α}(h:Tt Q r)(e:r=some a):Q a:=by obtain⟨b,h1,h2⟩:=h;rw[e]at h1;cases h1;exact h2
theorem adi(l:List Int)(hl:l.length<=maxLen):Jk l l=some (true,()):=by
 refine Tt.tru ?_;unfold Jk;rw[EE,beq_self_eq_true];refine .br (λ_=>.bind (.count (B:=H0) (E:=Sum.elim (λ_=>False) λ_=>True) l.length (λk (_:Unit)=>((l,l,(l.length:Int),(k:Int),()),(),())) (λ_ _=>True) (λ_ _=>.end (Eb _) (.ret trivial)) (λk _ hk _=>.go (D7.2 hk) (.ip (D5 k) (.get (tn hk) λx e _=>.ip (D5 k) (.get (tn hk) λy e2 _=>?_)))) () trivial) λy hy=>?_) (λh=>by cases h)
 ·obtain rfl:x=y:=Option.some.inj ((show l[k]?=some x from e).symm.trans (show l[k]?=some y from e2));rw[beq_self_eq_true];exact .br (λh=>by cases h) λ_=>.ret ⟨(),by rw[Cb hl hk],trivial⟩
 ·cases y with
  |inl y=>exact hy.elim
  |inr y=>exact .ret rfl
theorem Z6(l:List uQ)(hl:l.length<=maxLen):JS l l=some (true,()):=by
 refine Tt.tru ?_;unfold JS;rw[EE,beq_self_eq_true];refine .br (λ_=>.bind (.count (B:=J8) (E:=Sum.elim (λ_=>False) λ_=>True) l.length (λk (_:Unit)=>((l,l,(l.length:Int),(k:Int),()),(),())) (λ_ _=>True) (λ_ _=>.end (Eb _) (.ret trivial)) (λk _ hk _=>.go (D7.2 hk) (.ip (D5 k) (.get (tn hk) λx e _=>.ip (D5 k) (.get (tn hk) λy e2 _=>?_)))) () trivial) λy hy=>?_) (λh=>by cases h)
 ·obtain rfl:x=y:=Option.some.inj ((show l[k]?=some x from e).symm.trans (show l[k]?=some y from e2));simp only[beq_self_eq_true,EA];exact .br (λh=>by cases h) λ_=>.ret ⟨(),by rw[Cb hl hk],trivial⟩
 ·cases y with
  |inl y=>exact hy.elim
  |inr y=>exact .ret rfl
theorem adP(s:qk)(h:Fs 1048576 s):HG s s=some (true,()):=by unfold HG;simp only[beq_self_eq_true,C3,(GJ s.config s.config (EK h.1)).2,XU s.log s.log (EO h.2.1),XU s.learned s.learned (EO h.2.2),decide_true,ao]
theorem aef(m:jZ)(h:Md 1048576 m):Ir m m=some (true,()):=by
 have hl:=EO h.1;refine Tt.tru ?_;unfold Ir F2;rw[beq_self_eq_true,EE,beq_self_eq_true];refine .br (λ_=>.bind (Q:=λy=>y.1=true) (.br (λ_=>.bind (.count (B:=FT) (E:=Sum.elim (λ_=>False) λ_=>True) m.configs.length (λk (_:Unit)=>((m.configs,(),m.configs,(m.configs.length:Int),(k:Int),()),(),())) (λ_ _=>True) (λ_ _=>.end (Eb _) (.ret trivial)) (λk _ hk _=>.go (D7.2 hk) (.ip (D5 k) (.get (tn hk) λx e hx=>.ip (D5 k) (.get (tn hk) λy e2 _=>?_)))) () trivial) λy hy=>?_) (λh=>by cases h)) λy hy=>.ret hy) (λh=>by cases h)
 ·obtain rfl:x=y:=Option.some.inj ((show m.configs[k]?=some x from e).symm.trans (show m.configs[k]?=some y from e2));rw[(GJ x x (EK (h.2 x hx))).2,decide_eq_true rfl,ao];exact .br (λh=>by cases h) λ_=>.ret ⟨(),by rw[Cb hl hk],trivial⟩
 ·cases y with
  |inl y=>exact hy.elim
  |inr y=>exact .ret rfl
theorem aee(x:qh)(ok:EP 1048576 x):Jp x x=some (true,()):=by
 have hl:=EO ok.1.1;refine Tt.tru ?_;unfold Jp FL;simp only[beq_self_eq_true,EA,C3,adi x.sides (EO ok.2.1),aef x.master ok.2.2.1,Z6 x.places (EO ok.2.2.2),ao];rw[EE];refine .bind (Q:=λy=>y.1=true) (.br (λ_=>.bind (.count (B:=FA) (E:=Sum.elim (λ_=>False) λ_=>True) x.servers.length (λk (_:Unit)=>((x.servers,(),x.servers,(x.servers.length:Int),(k:Int),()),(),())) (λ_ _=>True) (λ_ _=>.end (Eb _) (.ret trivial)) (λk _ hk _=>.go (D7.2 hk) (.ip (D5 k) (.get (tn hk) λs e hs=>.ip (D5 k) (.get (tn hk) λt e2 _=>?_)))) () trivial) λy hy=>?_) (λh=>by cases h)) λy hy=>.br (λ_=>.ret rfl) λh=>by rw[h]at hy;cases hy
 ·obtain rfl:s=t:=Option.some.inj ((show x.servers[k]?=some s from e).symm.trans (show x.servers[k]?=some t from e2));rw[adP s (ok.1.2 s hs),ao];exact .br (λh=>by cases h) λ_=>.ret ⟨(),by rw[Cb hl hk],trivial⟩
 ·cases y with
  |inl y=>exact hy.elim
  |inr y=>exact .ret rfl
end
section

end
section
theorem ZW(x:qh)(ok:EP 1048576 x)(hv:ED x=some (true,())){id:Int}{S:List Int}(hS:GL x id=some (S,()))(h5:S.length<=5)(hr:∀z∈S,0<=z/\z<5):Tt (λy=>(S=[]->y.1= -1)/\(S≠ []->y.1∈S)) (Hp x id):=by
 have vc:=EZ ok hv;have lm:S.length<=maxLen:=by unfold maxLen;omega
 unfold Hp;rw[hS,ao];refine .bind (.count (B:=Hs) (E:=λe=>(S=[]->e.1.1= -1)/\(S≠ []->e.1.1∈S)) S.length (λk (b:Int)=>(((),b,(),(k:Int),()),(fx x,()),(S,()))) (λk b=>(k=0/\b= -1)\/(0<k/\b∈S)) (λb hb=>.end (Eb _) (.ret ⟨λh=>?_,λh=>?_⟩)) (λk b hk hb=>?_) (-1) (.inl ⟨rfl,rfl⟩)) λe h=>.ret h
 ·rcases hb with hb|hb
  ·exact hb.2
  ·rw[h]at hb;exact absurd hb.1 (dA _)
 ·rcases hb with hb|hb
  ·exact absurd (bc hb.1) h
  ·exact hb.2
 ·have c1: (k:Int)<(S.length:Int):=by omega
  have c2: (0:Int)<=(k:Int)/\(k:Int)<(S.length:Int):=by omega
  have hm:=D6 hk;have hz:=hr _ hm;have hg:S[k]?=some S[k] :=aq hk;generalize S[k]=z at hz hg hm;obtain⟨s,s1,s2,_⟩:=HI ok vc hz;simp only[Hs,fx,Dl,Cy,if_pos c1,if_pos c2,D4,hg,ao,if_pos hz.1,s1,Cb lm hk];have new:∃b',(((),z,(),((k+1:Nat):Int),()),(fx x,()),S,())=(((),b',(),((k+1:Nat):Int),()),(fx x,()),S,())/\((k+1=0/\b'= -1)\/(0<k+1/\b'∈S)):=⟨z,rfl,.inr ⟨Nat.succ_pos k,hm⟩⟩
  rcases hb with⟨_,rfl⟩| ⟨_,hb⟩
  ·exact .ret new
  ·have hb2:=hr _ hb;obtain⟨t,t1,_⟩:=HI ok vc hb2;simp only[if_neg (show ¬b<0 by omega),if_pos hb2.1,t1,ao];split
   ·exact .ret new
   ·exact .ret ⟨b,rfl,.inr ⟨Nat.succ_pos k,hb⟩⟩
theorem NN(x:qh)(ok:EP 1048576 x):∃c d,EF x.master=some (c,d,())/\E0 x.master=some (c,d,())/\Gu maxLen c:=by obtain⟨c,d,d1,d2,d3⟩:=Mx x.master x.master.activated ok.2.2.1;unfold EF E0;rw[d1,d2];exact⟨c,d,rfl,rfl,d3⟩
theorem aej(x:qh)(ok:EP 1048576 x)(id:Int)(h24:Il x id=some (false,()))(hh:Fp x id=some (false,())):
  GL x id=some ([],())/\HK x id=some ([],())/\GY x id=some ([],false,())/\Iv x id=some ([],false,())/\Gx x id=some ([],false,())/\I9 x id=some ([],false,())/\Hp x id=some (-1,())/\Iq x id=some (-1,()):=by
 obtain⟨v,v1,v2⟩:=Fx x ok;obtain⟨c,d,d1,d2,_⟩:=NN x ok
 have hw:v=false\/HC id 0 4=false:=by
  unfold Il at h24;simp only[v1,FB,ao]at h24;cases v with
  |false=>exact .inl rfl
  |true=>simp only[C3,af,au,and_true]at h24;exact .inr h24
 have a1:GL x id=some ([],()):=by
  unfold GL;rw[d1,ao]
  rw[show LB ((id,(),(),(),d,0,()),(fx x,(c.epoch,c.primary,(),(),()),()),([],c.replicas,c.witnesses,()))=some (((),()),(),([],()))from lO (by
   simp only[GW,fx,Dl,show (⟨x.now,x.servers,x.sides,(⟨x.master.configs,x.master.activated⟩:jZ),x.masterUp,(⟨x.lease.epoch,x.lease.holder,x.lease.ends⟩:uN),x.places⟩:qh)=x from rfl,v1,FB,ao];split
   ·cases d with
    |false=>rfl
    |true=>
     rcases hw with rfl|hw
     ·rfl
     ·rw[hw];cases v<;>rfl
   ·rfl)]
  rfl
 have a3:GY x id=some ([],false,()):=by
  unfold GY;rw[d1,ao]
  rw[show LC ((id,(),(),false,(),d,0,()),(fx x,(c.epoch,c.primary,(),(),()),()),([],c.replicas,c.witnesses,()))=some (((),false,()),(),([],()))from lO (by
   simp only[GD,fx,Dl,show (⟨x.now,x.servers,x.sides,(⟨x.master.configs,x.master.activated⟩:jZ),x.masterUp,(⟨x.lease.epoch,x.lease.holder,x.lease.ends⟩:uN),x.places⟩:qh)=x from rfl,v1,FB,ao];split
   ·cases d with
    |false=>rfl
    |true=>
     rcases hw with rfl|hw
     ·rfl
     ·rw[hw];cases v<;>rfl
   ·rfl)]
  rfl
 have a2:HK x id=some ([],()):=by unfold HK;rw[d2,ao,hh,ao];cases d<;>rfl
 refine⟨a1,a2,a3,?_,?_,?_,?_,?_⟩
 ·unfold Iv;rw[d2,ao,hh,ao];cases d<;>rfl
 ·unfold Gx;rw[v1,FB,ao,ao];rcases hw with rfl|hw
  ·rfl
  ·rw[hw];cases v<;>rfl
 ·unfold I9;rw[hh];rfl
 ·unfold Hp;rw[a1,ao,show NS (((),-1,(),0,()),(fx x,()),([],()))=some ((-1,()),(),())from lO rfl];rfl
 ·unfold Iq;rw[a2,ao,show NP (((),-1,(),(([]:List Int).length:Int),0,()),(fx x,()),([],()))=some ((-1,()),(),())from lO rfl];rfl
theorem abj(x:qh)(ok:EP 1048576 x)(id:Int):∃S n l b w f,GL x id=some (S,())/\HK x id=some (S,())/\Hp x id=some (n,())/\Iq x id=some (n,())/\Gx x id=some (l,b,())/\I9 x id=some (l,b,())/\GY x id=some (w,f,())/\Iv x id=some (w,f,())/\
  S.length<=5/\l.length<=1048576/\w.length<=1048576/\(S≠ []->b=true/\n∈S)/\(b=false->S=[]/\f=false):=by
 obtain⟨g,g1,g2,g3⟩:=TT x id ok;cases g with
 |false=>obtain⟨a1,a2,a3,a4,a5,a6,a7,a8⟩:=aej x ok id g1 g2;exact⟨[],-1,[],false,[],false,a1,a2,a7,a8,a5,a6,a3,a4,bO _,bO _,bO _,λh=>absurd rfl h,λ_=>⟨rfl,rfl⟩⟩
 |true=>
  obtain⟨hv,hid⟩:=g3 rfl;obtain⟨S,s1,s2,s3,s4⟩:=Ry ok ok hv hv (.refl x) hid;obtain⟨n,n1,n2,n3⟩:=TM ok ok hv hv (.refl x) hid;obtain⟨l,b,l1,l2,l3⟩:=V6 ok ok hv hv (.refl x) hid;obtain⟨w,f,w1,w2,w3⟩:=UY ok ok hv hv (.refl x) hid;have hn:=(ZW x ok hv s1 s3 s4).is n1
  have hb: (S≠ []->b=true)/\(b=false->f=false):=by
   unfold Gx at l1;simp only[hv,FB,EI.2 (show 0<=id/\id<=4 by omega),n1,w1,ao,EE,C3]at l1;cases h:x.master.activated==0 with
   |true=>rw[h]at l1;simp only[C3,af,au]at l1;rw[<-l1.2.1];exact⟨λ_=>rfl,nofun⟩
   |false=>
    rw[h]at l1;simp only[Ce,Dl]at l1;by_cases hn0:n≥0
    ·obtain⟨t,t1,t2,_⟩:=HI ok (EZ ok hv) (by omega:0<=n/\n<5);rw[if_pos hn0,Cy,if_pos hn0,t1,ao,(Jd _ t2.2.1).1,ao]at l1;simp only[af,au]at l1;rw[<-l1.2.1];exact⟨λ_=>rfl,nofun⟩
    ·rw[if_neg hn0]at l1;simp only[af,au]at l1;refine⟨λh=>?_,λh=>l1.2.1.trans h⟩;exact absurd (s4 _ (hn.2 h)).1 hn0
  refine⟨S,n,l,b,w,f,s1,s2,n1,n2,l1,l2,w1,w2,s3,l3,by omega,λh=>⟨hb.1 h,hn.2 h⟩,λh=>⟨?_,hb.2 h⟩⟩;exact Classical.byContradiction λh2=>by rw[hb.1 h2]at h;cases h
end
section
theorem ab4(x:qh)(ok:EP 1048576 x){a b:Int}(ha: ¬ (0<=a/\a<5)):F5 x.sides a b=some (false,())/\IE x.sides a b=some (false,()):=by
 obtain⟨v,s1,s2⟩:=Nv x.sides (EO ok.2.1)
 have wa:HC a 0 4=false:=by
  cases h:HC a 0 4 with
  |false=>rfl
  |true=>exact absurd (by have:=EI.1 h;omega) ha
 unfold F5 IE;rw[s1,s2];simp only[FB,Kb,wa,ao];cases v<;>exact⟨rfl,rfl⟩
theorem ab1(x:qh)(ok:EP 1048576 x){id:Int}(e:Int)(hid: ¬ (0<=id/\id<5)):GR x id e=some (x,())/\Ho x id e=some (x,()):=by
 obtain⟨v,v1,v2⟩:=Fx x ok;obtain⟨c,d,d1,d2,d3⟩:=NN x ok;obtain⟨m,m1,m2,m3,m4,m5,_⟩:=Hy c d3;have mm:m.length<=maxLen:=by unfold maxLen;omega
 unfold GR Ho;simp only[(FO x ok).1,(FO x ok).2,d1,d2,v1,v2,FB,Kb,ao,EE];cases v with
 |false=>exact⟨rfl,rfl⟩
 |true=>
 have vc:=EZ ok v1;cases d with
 |false=>exact⟨rfl,rfl⟩
 |true=>
 cases HC e 1 (x.master.configs.length:Int)with
 |false=>exact⟨rfl,rfl⟩
 |true=>
  obtain⟨_,_,k1,k2⟩:=Mu (B1:=GI) (B2:=GH) m.length
   (λk (_:Unit)=>((id,e,(),(),(),(),(k:Int),()),(fx x,fz,fc x,()),(m,x.servers,x.sides,x.master.configs,x.places,())))
   (λk (_:Unit)=>((id,e,(),(),(),(),(m.length:Int),(k:Int),()),(fx x,fz,fc x,()),(m,x.servers,x.sides,x.master.configs,x.places,())))
   (λ_ _=>True)
   (λ_=>(((),(),()),(fz,fc x,()),(x.servers,x.sides,x.master.configs,x.places,())))
   (λ_=>(((),(),()),(fz,fc x,()),(x.servers,x.sides,x.master.configs,x.places,())))
   (λ_ _=>by simp only[GI,GH,Dl];exact⟨if_neg (by omega),if_neg (by omega)⟩)
   (λk _ hk _=>by
     have c1: (k:Int)<(m.length:Int):=by omega
     have c2: (0:Int)<=(k:Int)/\(k:Int)<(m.length:Int):=by omega
     have hz:=m4 _ (D6 hk);have hg:m[k]?=some m[k] :=aq hk;generalize m[k]=z at hz hg;obtain⟨s,s1,s2,_⟩:=HI ok vc hz;obtain⟨h1,h2⟩:=ab4 x ok (b:=z) hid;have c3:0<=z/\z<(x.servers.length:Int):=by rw[vc.len];exact hz
     refine⟨(),?_,?_,trivial⟩
     ·simp only[GI,fx,Dl,Cy,if_pos c1,if_pos c2,D4,hg,ao,if_pos hz.1,s1,h1,Cb mm hk,Ce];cases s.up<;>rfl
     ·simp only[GH,fx,Dl,Cy,if_pos c1,if_pos c2,D4,hg,ao,if_pos c3,s1,h2,Cb mm hk,Ce];cases s.up<;>rfl)
   () trivial
  simp only[C3,m1,m2,ao];rw[show MV ((id,e,(),(),(),(),0,()),(fx x,fz,fc x,()),(m,x.servers,x.sides,x.master.configs,x.places,()))=_ from k1,show MU ((id,e,(),(),(),(),(m.length:Int),0,()),(fx x,fz,fc x,()),(m,x.servers,x.sides,x.master.configs,x.places,()))=_ from k2];exact⟨rfl,rfl⟩
theorem ad1(x:qh)(ok:EP 1048576 x)(id e:Int):∃y,GR x id e=some (y,())/\Ho x id e=some (y,())/\EP 1048576 y/\(ED x=some (true,())->ED y=some (true,())/\ZV x y/\∃S,y=Gv x S):=by
 by_cases hid:0<=id/\id<5
 ·obtain⟨v,v1,v2⟩:=Fx x ok;cases v with
  |true=>obtain⟨S,a1,a2,a3,a4,a5,_⟩:=Tf x ok v1 (e:=e) hid;exact⟨_,a1,a2,a3,λ_=>⟨a4,a5,S,rfl⟩⟩
  |false=>
   obtain⟨c,d,d1,d2,_⟩:=NN x ok;refine⟨x,?_,?_,ok,λh=>by rw[v1]at h;cases h⟩
   ·unfold GR;simp only[(FO x ok).1,d1,v1,ao,EE];rfl
   ·unfold Ho;simp only[(FO x ok).2,d2,v2,ao,EE];rfl
 ·obtain⟨a1,a2⟩:=ab1 x ok e hid;exact⟨x,a1,a2,ok,λh=>⟨h,.refl x,x.servers,rfl⟩⟩
structure Co (x y:qh):Prop where
 sides:y.sides=x.sides
 master:y.master=x.master
 srv:∀ (j:Nat) s,x.servers[j]?=some s->∃t,y.servers[j]?=some t/\t.up=s.up/\t.version=s.version/\t.epoch=s.epoch/\t.config=s.config
theorem Co.self(x:qh):Co x x:=⟨rfl,rfl,λ_ s h=>⟨s,h,rfl,rfl,rfl,rfl⟩⟩
theorem Co.trans{x y z:qh}(h:Co x y)(k:Co y z):Co x z:=⟨k.1.trans h.1,k.2.trans h.2,λj s hs=>by obtain⟨t,t1,t2,t3,t4,t5⟩:=h.srv j s hs;obtain⟨u,u1,u2,u3,u4,u5⟩:=k.srv j t t1;exact⟨u,u1,u2.trans t2,u3.trans t3,u4.trans t4,u5.trans t5⟩⟩
theorem Co.set{x y:qh}(h:Co x y){i:Nat}{s t:qk}(hs:y.servers[i]?=some s)(h1:t.up=s.up)(h2:t.version=s.version)(h3:t.epoch=s.epoch)(h4:t.config=s.config):Co x ⟨y.now,y.servers.set i t,y.sides,y.master,y.masterUp,y.lease,y.places⟩:=
 h.trans ⟨rfl,rfl,λj u hu=>by
  by_cases hj:i=j
  ·subst hj;rw[hs]at hu;obtain rfl:=Option.some.inj hu;exact⟨t,Ea (Du hs),h1,h2,h3,h4⟩
  ·exact⟨u,(Ed hj).trans hu,rfl,rfl,rfl,rfl⟩⟩
def Hr(x:qh)(a b:Int):Prop:=∀p q,x.servers[a.toNat]?=some p->x.servers[b.toNat]?=some q->q.epoch=p.epoch/\q.config=p.config
theorem Co.hr{x y:qh}(h:Co x y){a b:Int}(hh:Hr y a b):Hr x a b:=λp q hp hq=>by obtain⟨p',p1,_,_,p2,p3⟩:=h.srv _ _ hp;obtain⟨q',q1,_,_,q2,q3⟩:=h.srv _ _ hq;obtain⟨e1,e2⟩:=hh p' q' p1 q1;exact⟨q2.symm.trans (e1.trans p2),q3.symm.trans (e2.trans p3)⟩
theorem aab{x:qh}(ok:EP 1048576 x)(vc:VC x){a b:Int}(ha:0<=a/\a<5)(hb:0<=b/\b<5):Tt (λy=>y.1=true->Hr x a b) (Fw x a b):=by unfold Fw;have no:Tt (λy:Bool×Unit=>y.1=true->Hr x a b) (some (false,())):=.ret nofun;refine .srv ok vc hb λm m1 m2 _=>.bind (ad2 ok vc a b) λ_ _=>.br (λ_=>.br (λ_=>.srv ok vc ha λp p1 p2 _=>.br (λhe=>.srv ok vc ha λ_ _ _ _=>.br (λ_=>.srv ok vc ha λq q1 _ _=>?_) λ_=>no) λ_=>no) λ_=>no) λ_=>no;rw[(GJ m.config q.config (EK m2.1)).1];refine .ret λh p' q' hp hq=>?_;rw[p1]at hp;rw[m1]at hq;rw[p1]at q1;obtain rfl:=Option.some.inj hp;obtain rfl:=Option.some.inj hq;obtain rfl:=Option.some.inj q1;exact⟨eq_of_beq he,of_decide_eq_true h⟩
theorem adX(x:qh)(ok:EP 1048576 x)(id m:Int):Tt (λy=>Kp x y.1/\Co x y.1/\(y.2.1=true->Hr x id m)) (Ff x id m):=by
 obtain⟨b,b1,_,b2⟩:=Ke x ok id;have bad:Tt (λy:qh×Bool×Unit=>Kp x y.1/\Co x y.1/\(y.2.1=true->Hr x id m)) (some (x,false,())):=.ret ⟨.self ok,.self x,nofun⟩;unfold Ff;rw[(FO x ok).1,ao,b1,ao,EE];refine .br (λe=>?_) λ_=>bad;obtain⟨hv,h0,h5,hp⟩:=b2 e;have vc:=EZ ok hv;refine .srv ok vc ⟨h0,h5⟩ λs s1 s2 s3=>.bind (RX _ (EK s2.1)) λy hy=>?_;rw[(EY y.1 m (by have:=hy.1;unfold maxLen;omega)).1,ao,EE];refine .br (λhm=>?_) λ_=>bad;have hm:=hy.2 m (of_decide_eq_true hm);refine .bind (aab ok vc ⟨h0,h5⟩ hm) λz hz=>?_;rw[EE];refine .br (λe=>.srv ok vc ⟨h0,h5⟩ λt t1 t2 t3=>.srv ok vc ⟨h0,h5⟩ λu _ u2 _=>?_) λ_=>bad;have hz:=hz e;obtain⟨n,n1,_⟩:=Od u.config m (EK u2.1);rw[n1,ao];have five:∀ (i:Nat) (s:qk),(x.servers.set i s).length=5:=λi s=>by rw[D8];exact vc.len
 refine .br (λ_=>?_) λ_=>?_
 ·rw[R9 t.log t2.2.1 (H8 t2 t3).2.2.2.2.2.1,ao];refine .ip (by show 0<=m/\m<(x.servers.length:Int);rw[vc.len];exact hm) (.at vc.len hm λw w1 hw=>?_);have hw:=ok.1.2 w hw;refine .get (by rw[five];omega) λw' w1' hw'=>.ret ⟨.srvs (.self ok) (by rw[D8,D8]) λs hs=>?_,?_,λ_=>hz⟩
  ·have all:=(Rj ok.1 (s:=⟨w.up,w.intact,w.version,w.epoch,w.config,((cutAt t.log:Nat):Int),w.log,w.commit,w.learned⟩) hw m.toNat)
   have hw':=all.2 w' hw';exact(Rj all (s:=⟨w'.up,w'.intact,w'.version,w'.epoch,w'.config,w'.first,t.log.drop (cutAt t.log),w'.commit,w'.learned⟩) ⟨hw'.1,by show List.length _<=_;rw[co];have:=t2.2.1;omega,hw'.2.2⟩ m.toNat).2 s hs
  ·exact Co.set (t:=⟨w'.up,w'.intact,w'.version,w'.epoch,w'.config,w'.first,t.log.drop (cutAt t.log),w'.commit,w'.learned⟩) (Co.set (t:=⟨w.up,w.intact,w.version,w.epoch,w.config,((cutAt t.log:Nat):Int),w.log,w.commit,w.learned⟩) (.self x) w1 rfl rfl rfl rfl) w1' rfl rfl rfl rfl
 ·rw[TQ t2.2.1,ao];exact .at vc.len hm λw w1 hw=>.ret ⟨(Kp.self ok).set (s:=⟨w.up,w.intact,w.version,w.epoch,w.config,w.first,t.log,w.commit,w.learned⟩) ⟨(ok.1.2 w hw).1,t2.2.1,(ok.1.2 w hw).2.2⟩ _,Co.set (t:=⟨w.up,w.intact,w.version,w.epoch,w.config,w.first,t.log,w.commit,w.learned⟩) (.self x) w1 rfl rfl rfl rfl,λ_=>hz⟩
end
section
theorem VQ:FE []=some (true,()):=(OS [] (by unfold maxLen;decide)).2 ⟨by decide,λk h=>absurd h (Ej k)⟩
theorem QL{α:Type}{P:Prop}{b:Bool}{x y z:Option α}(h:br b x y=z)(h1:b=true->x=z->P)(h2:b=false->y=z->P):P:=by
 cases b with
 |true=>exact h1 rfl h
 |false=>exact h2 rfl h
theorem VO{s:qk}{id n:Int}(ok:Fs 1048576 s)(hv:EG s id=some (true,()))(hn:Fm s.config id=some (n,()))(h3: (n==3)=false):s.first=0:=by
 have hc:=EK ok.1;obtain⟨_,_,_,_,_,f6,f7,_⟩:=H8 ok hv;obtain⟨e,e1,_⟩:=Io s.log (EO ok.2.1);have no:∀ {P:Prop},some (false,())=some (true,())->P:=λh=>by cases h
 unfold EG at hv;simp only[FB,f6,f7,Kd s.config hc,hn,e1,ao,EE,C3]at hv;refine QL hv (λ_ hv=>QL hv (λ_ hv=>QL hv (λ_ hv=>QL hv (λ_ hv=>QL hv (λ_ hv=>QL hv (λ_ hv=>QL hv (λh _=>eq_of_beq h) λ_ h=>no h) λ_ hv=>QL hv (λ_ hv=>QL hv (λ_ h=>no h) λ_ hv=>QL hv (λ_ h=>no h) λ_ hv=>QL hv (λ_ h=>no h) λ_ hv=>?_) λ_ h=>no h) λ_ h=>no h) λ_ h=>no h) λ_ h=>no h) λ_ h=>no h) λ_ h=>no h;rw[h3]at hv;exact eq_of_beq (Prod.mk.inj (Option.some.inj hv)).1
def Sm(x:qh)(l:List rp)(m:Int):Prop:=∀t,x.servers[m.toNat]?=some t->t.first+(t.log.length:Int)=(l.length:Int)/\0<=t.first/\t.log=l.drop t.first.toNat
theorem adB(x:qh)(ok:EP 1048576 x)(id m:Int):Tt (λy=>Kp x y.1/\(∀p,x.servers[id.toNat]?=some p->(∃p',y.1.servers[id.toNat]?=some p'/\p'.log=p.log)/\(∀k:Int,Sm x p.log k->Sm y.1 p.log k)/\(y.2.1=true->Sm y.1 p.log m))) (Ff x id m):=by
 obtain⟨b,b1,_,b2⟩:=Ke x ok id;have bad:Tt (λy:qh×Bool×Unit=>Kp x y.1/\(∀p,x.servers[id.toNat]?=some p->(∃p',y.1.servers[id.toNat]?=some p'/\p'.log=p.log)/\(∀k:Int,Sm x p.log k->Sm y.1 p.log k)/\(y.2.1=true->Sm y.1 p.log m))) (some (x,false,())):=.ret ⟨.self ok,λp hp=>⟨⟨p,hp,rfl⟩,λ_ h=>h,nofun⟩⟩;unfold Ff;rw[(FO x ok).1,ao,b1,ao,EE];refine .br (λe=>?_) λ_=>bad;obtain⟨hv,h0,h5,hp⟩:=b2 e;have vc:=EZ ok hv;refine .srv ok vc ⟨h0,h5⟩ λs s1 s2 s3=>.bind (RX _ (EK s2.1)) λy hy=>?_;rw[(EY y.1 m (by have:=hy.1;unfold maxLen;omega)).1,ao,EE];refine .br (λhm=>?_) λ_=>bad;have hm:=hy.2 m (of_decide_eq_true hm);refine .bind (aab ok vc ⟨h0,h5⟩ hm) λz hz=>?_;rw[EE];refine .br (λe=>.srv ok vc ⟨h0,h5⟩ λt t1 t2 t3=>.srv ok vc ⟨h0,h5⟩ λu u1 u2 _=>?_) λ_=>bad;have hz:=hz e;obtain rfl:t=s:=Option.some.inj (t1.symm.trans s1);obtain rfl:u=t:=Option.some.inj (u1.symm.trans s1);obtain⟨w,w1,w2,w3⟩:=HI ok vc hm;have hwc:w.config=u.config:=(hz u w s1 w1).2;obtain⟨n,n1,_⟩:=Od u.config m (EK u2.1);have pf:=Kf u2 (hp u s1);obtain⟨n',n1',_,_,n4⟩:=SH u.config m (EK u2.1) pf.1;obtain rfl:n=n':=(Prod.mk.inj (Option.some.inj (n1.symm.trans n1'))).1;rw[n1,ao];have hlt:m.toNat<x.servers.length:=Du w1;have hlu:=u2.2.1
 have fin:∀ (v:qk),Fs 1048576 v->v.first+(v.log.length:Int)=(u.log.length:Int)->0<=v.first->v.log=u.log.drop v.first.toNat->(m=id->v.log=u.log)->∀p,x.servers[id.toNat]?=some p->(∃p',(x.servers.set m.toNat v)[id.toNat]?=some p'/\p'.log=p.log)/\(∀k:Int,Sm x p.log k->Sm ⟨x.now,x.servers.set m.toNat v,x.sides,x.master,x.masterUp,x.lease,x.places⟩ p.log k)/\(true=true->Sm ⟨x.now,x.servers.set m.toNat v,x.sides,x.master,x.masterUp,x.lease,x.places⟩ p.log m):=by
  intro v _ v1 v2 v3 v4 p hp;obtain rfl:p=u:=Option.some.inj (hp.symm.trans s1)
  have here:Sm ⟨x.now,x.servers.set m.toNat v,x.sides,x.master,x.masterUp,x.lease,x.places⟩ p.log m:=λt ht=>by rw[show (x.servers.set m.toNat v)[m.toNat]?=some v from Ea hlt]at ht;obtain rfl:=Option.some.inj ht;exact⟨v1,v2,v3⟩
  refine⟨?_,λk hk t ht=>?_,λ_=>here⟩
  ·by_cases hmi:m.toNat=id.toNat
   ·rw[<-hmi];exact⟨v,Ea hlt,v4 (by omega)⟩
   ·exact⟨p,by rw[Ed hmi];exact hp,rfl⟩
  ·by_cases hmk:m.toNat=k.toNat
   ·rw[<-hmk]at ht;exact here t ht
   ·exact hk t (by rw[<-Ed hmk];exact ht)
 have five:∀ (i:Nat) (s:qk),(x.servers.set i s).length=5:=λi s=>by rw[D8];exact vc.len
 refine .br (λhn3=>?_) λhn3=>?_
 ·rw[R9 u.log u2.2.1 (H8 u2 s3).2.2.2.2.2.1,ao];refine .ip (by show 0<=m/\m<(x.servers.length:Int);rw[vc.len];exact hm) (.at vc.len hm λa a1 ha=>?_);obtain rfl:a=w:=Option.some.inj (a1.symm.trans w1);refine .get (by rw[five];omega) λa' a1' ha'=>?_;rw[show (x.servers.set m.toNat (⟨a.up,a.intact,a.version,a.epoch,a.config,((cutAt u.log:Nat):Int),a.log,a.commit,a.learned⟩:qk))[m.toNat]?=some _ from Ea hlt]at a1';obtain rfl:=Option.some.inj a1';rw[List.set_set];have hc:cutAt u.log<=u.log.length:=by unfold cutAt;omega
  have okv:Fs 1048576 ⟨a.up,a.intact,a.version,a.epoch,a.config,((cutAt u.log:Nat):Int),u.log.drop (cutAt u.log),a.commit,a.learned⟩:=⟨w2.1,by show List.length _<=_;rw[co];omega,w2.2.2⟩
  refine .ret ⟨(Kp.self ok).set okv _,fin _ okv ?_ (D5 _) ?_ λh=>absurd (h.trans pf.2) (n4 (eq_of_beq hn3))⟩
  ·show ((cutAt u.log:Nat):Int)+((u.log.drop (cutAt u.log)).length:Int)=_;rw[co];omega
  ·show u.log.drop (cutAt u.log)=u.log.drop ((cutAt u.log:Nat):Int).toNat;rw[D4]
 ·rw[TQ u2.2.1,ao];refine .at vc.len hm λa a1 ha=>?_;obtain rfl:a=w:=Option.some.inj (a1.symm.trans w1);have hf:a.first=0:=VO w2 w3 (by rw[hwc];exact n1) hn3;have okv:Fs 1048576 ⟨a.up,a.intact,a.version,a.epoch,a.config,a.first,u.log,a.commit,a.learned⟩:=⟨w2.1,u2.2.1,w2.2.2⟩
  refine .ret ⟨(Kp.self ok).set okv _,fin _ okv ?_ ?_ ?_ λ_=>rfl⟩
  ·show a.first+(u.log.length:Int)=_;omega
  ·show 0<=a.first;omega
  ·show u.log=u.log.drop a.first.toNat;rw[hf];rfl
theorem Tt.and{α:Type}{Q Q':α->Prop}{r:Option α}(h:Tt Q r)(h':Tt Q' r):Tt (λa=>Q a/\Q' a) r:=by obtain⟨a,rfl,h⟩:=h;exact⟨a,rfl,h,h'.is rfl⟩
def Cm(S S':List qk)(k:Nat)(M:List Int)(n:Int):Prop:=(∀ (j:Nat) s,S[j]?=some s->∃t,S'[j]?=some t/\t.config=s.config/\t.first=s.first/\t.log=s.log)/\∀j m,j<k->M[j]?=some m->∀t,S'[m.toNat]?=some t->t.commit=n
theorem Z1(x:qh)(ok:EP 1048576 x)(id:Int):Tt (λy=>y.2.1=true->∃q,0<=id/\id<5/\y.1.servers[id.toNat]?=some q/\EH q.config=some (true,())/\id=q.config.primary/\∀M,Fd q.config=some (M,())->∀m∈M,0<=m/\m<5/\∀t,y.1.servers[m.toNat]?=some t->t.commit=(q.log.length:Int)/\t.first+(t.log.length:Int)=(q.log.length:Int)/\0<=t.first/\t.log=q.log.drop t.first.toNat) (Fr x id):=by
 obtain⟨b,b1,_,b2⟩:=Ke x ok id;unfold Fr;rw[(FO x ok).1,ao,b1,ao,EE];refine .br (λe=>?_) λ_=>.ret nofun;obtain⟨hv,h0,h5,hp⟩:=b2 e;have vc:=EZ ok hv;refine .srv ok vc ⟨h0,h5⟩ λs s1 s2 s3=>?_;have pf:=Kf s2 (hp s s1);obtain⟨⟨M,_⟩,hM,hy⟩:=RX _ (EK s2.1);rw[hM,ao];have hl:M.length<=maxLen:=by have :M.length<=10:=hy.1;unfold maxLen;omega
 refine .bind (.count (B:=F6) (E:=λe=>∃ (c:qh) (a:Bool),Kp x c/\Co x c/\(∃p,c.servers[id.toNat]?=some p/\p.log=s.log)/\(a=true->∀m∈M,Sm c s.log m)/\e=((id,(),(),(),a,()),(fz,fc c,()),M,c.servers,c.sides,c.master.configs,c.places,())) M.length (λk (b:qh×Bool)=>((id,(),(),(),b.2,(k:Int),()),(fz,fc b.1,()),M,b.1.servers,b.1.sides,b.1.master.configs,b.1.places,())) (λk b=>Kp x b.1/\Co x b.1/\(∃p,b.1.servers[id.toNat]?=some p/\p.log=s.log)/\(b.2=true->∀j m,j<k->M[j]?=some m->Sm b.1 s.log m)) (λb hb=>.end (Eb _) (.ret ⟨b.1,b.2,hb.1,hb.2.1,hb.2.2.1,λe m hm=>?_,rfl⟩)) (λk b hk hb=>.go (D7.2 hk) (.ip ⟨D5 k,D7.2 hk⟩ (.get (tn hk) λz z1 hz=>.bind ((adX b.1 hb.1.1 id z).and (adB b.1 hb.1.1 id z)) λw hw=>?_))) (x,true) ⟨.self ok,.self x,⟨s,s1,rfl⟩,λ_ j m h=>absurd h (Ej j)⟩) ?_
 ·obtain⟨j,hj,rfl⟩:=aU hm;exact hb.2.2.2 e j _ hj (aq hj)
 ·obtain⟨p,p1,p2⟩:=hb.2.2.1;obtain⟨⟨p',p1',p2'⟩,g1,g2⟩:=hw.2.2 p p1;have hpl:∃p,w.1.servers[id.toNat]?=some p/\p.log=s.log:=⟨p',p1',p2'.trans p2⟩
  rw[p2]at g1 g2;refine .br (λhb2=>.ret ⟨(w.1,w.2.1),by rw[Cb hl hk],hb.1.trans hw.2.1,hb.2.1.trans hw.1.2.1,hpl,λhw2 j m hj hm=>?_⟩) λ_=>.ret ⟨(w.1,false),by rw[Cb hl hk],hb.1.trans hw.2.1,hb.2.1.trans hw.1.2.1,hpl,nofun⟩;by_cases hjk:j=k
  ·subst hjk;have z1:M[j]?=some z:=z1;rw[z1]at hm;obtain rfl:=Option.some.inj hm;exact g2 hw2
  ·exact g1 m (hb.2.2.2 hb2 j m (by omega) hm)
 rintro _ ⟨c,a,hc,hco,⟨p,p1,p2⟩,ha,rfl⟩
 have len5:c.servers.length=5:=hc.2.trans vc.len
 have endCm:∀b:List qk,Cm c.servers b M.length M (s.log.length:Int)->∀m∈M,∀t,b[m.toNat]?=some t->t.commit=(s.log.length:Int):=λb hb m hm=>by obtain⟨j,hj,rfl⟩:=aU hm;exact hb.2 j _ hj (aq hj)
 refine .bind (.count (B:=Fq) (E:=λe=>(e.1.2.2.1=true->a=true)/\(a=true->Cm c.servers e.2.2.1 M.length M (s.log.length:Int))) M.length (λk (b:List qk)=>((id,(),(),(),a,(k:Int),()),(fz,fc c,()),M,b,c.sides,c.master.configs,c.places,())) (λk b=>b.length=5/\Cm c.servers b k M (s.log.length:Int)) (λb hb=>.end (Eb _) (.ret ⟨λh=>h,λ_=>hb.2⟩)) (λk b hk hb=>.go (D7.2 hk) (.br (λ_=>.ip ⟨D5 k,D7.2 hk⟩ (.get (tn hk) λz z1 hz=>.at hb.1 ⟨h0,h5⟩ λu u1 _=>.at hb.1 (hy.2 z hz) λq q1 hq=>.ret ⟨b.set z.toNat ⟨q.up,q.intact,q.version,q.epoch,q.config,q.first,q.log,((u.log.length:Nat):Int),q.learned⟩,by rw[Cb hl hk],by rw[D8];exact hb.1,?_,?_⟩)) λh=>.ret ⟨λh=>h,λh'=>by rw[h']at h;cases h⟩)) c.servers ⟨len5,λj t h=>⟨t,h,rfl,rfl,rfl⟩,λj m h=>absurd h (Ej j)⟩) ?_
 ·intro j t ht;obtain⟨t',a1,a2,a3,a4⟩:=hb.2.1 j t ht;by_cases hj:z.toNat=j
  ·subst hj;obtain rfl:t'=q:=Option.some.inj (a1.symm.trans q1);exact⟨_,Ea (Du q1),a2,a3,a4⟩
  ·exact⟨t',by rw[Ed hj];exact a1,a2,a3,a4⟩
 ·intro j m hj hm t ht;obtain⟨u',a1,_,_,a4⟩:=hb.2.1 _ _ p1;obtain rfl:u'=u:=Option.some.inj (a1.symm.trans u1);have hul:u'.log=s.log:=a4.trans p2;by_cases hzm:z.toNat=m.toNat
  ·rw[<-hzm,Ea (Du q1)]at ht;rw[<-Option.some.inj ht];show ((u'.log.length:Nat):Int)=_;rw[hul]
  ·rw[Ed hzm]at ht;by_cases hjk:j=k
   ·subst hjk;have z1:M[j]?=some z:=z1;rw[z1]at hm;exact absurd (congrArg Int.toNat (Option.some.inj hm)) hzm
   ·exact hb.2.2 j m (by omega) hm t ht
 intro e he;refine .ret λh=>?_;have ha':=he.1 h;have hcm:=he.2 ha';obtain⟨q,q1,q2,q3,q4⟩:=hcm.1 _ _ p1;obtain⟨p'',r1,_,_,_,r5⟩:=hco.srv _ _ s1;obtain rfl:p''=p:=Option.some.inj (r1.symm.trans p1);have hqc:q.config=s.config:=q2.trans r5;have hql:q.log=s.log:=q4.trans p2;refine⟨q,h0,h5,q1,by rw[hqc];exact pf.1,by rw[hqc];exact pf.2,λM' hM' m hm=>?_⟩;rw[hqc,hM]at hM';obtain rfl:=(Prod.mk.inj (Option.some.inj hM')).1;refine⟨(hy.2 m hm).1,(hy.2 m hm).2,λt ht=>?_⟩;obtain⟨w,w1,_⟩:∃w,c.servers[m.toNat]?=some w/\True:=⟨_,aq (by have:=hy.2 m hm;omega),trivial⟩
 obtain⟨t',t1,t2,t3,t4⟩:=hcm.1 _ _ w1;obtain rfl:t'=t:=Option.some.inj (t1.symm.trans ht);obtain⟨d1,d2,d3⟩:=ha ha' m hm w w1;rw[hql,t3,t4];exact⟨endCm _ hcm m hm t' ht,d1,d2,d3⟩
end
section
def Ev{α:Type}(Q:α->Prop)(r:Option α):Prop:=∀a,r=some a->Q a
section
variable {α β σ ε:Type} {Q:α->Prop} {Q':β->Prop}
theorem Ev.ret{a:α}(h:Q a):Ev Q (some a):=λ_ e=>Option.some.inj e ▸ h
theorem Ev.no:Ev Q none:=nofun
theorem Ev.bd{r:Option α}{k:α->Option β}(hk:∀a,r=some a->Ev Q' (k a)):Ev Q' (r.bind k):=λb e=>by
 cases r with
 |none=>cases e
 |some a=>exact hk a rfl b e
theorem Ev.bind{r:Option α}{k:α->Option β}(h:Ev Q r)(hk:∀a,Q a->Ev Q' (k a)):Ev Q' (r.bind k):=.bd λa e=>hk a (h a e)
theorem Ev.br{b:Bool}{x y:Option α}(h1:b=true->Ev Q x)(h2:b=false->Ev Q y):Ev Q (Go.Proofs.YtkghndikalnipaaGreat.En.br b x y):=by
 cases b with
 |true=>exact h1 rfl
 |false=>exact h2 rfl
theorem Ev.brn{b:Bool}{x y:Option α}(h1:b=true->Ev Q y)(h2:b=false->Ev Q x):Ev Q (Go.Proofs.YtkghndikalnipaaGreat.En.br (!b) x y):=by
 cases b with
 |true=>exact h1 rfl
 |false=>exact h2 rfl
theorem Ev.ip{p:Prop}{d:Decidable p}{x:Option α}(h:p->Ev Q x):Ev Q (@iteP _ p d x none):=by
 by_cases hp:p
 ·rw[CA hp];exact h hp
 ·rw[Cz hp];exact .no
theorem Ev.mono{Q2:α->Prop}{r:Option α}(h:Ev Q r)(hq:∀a,Q a->Q2 a):Ev Q2 r:=λa e=>hq a (h a e)
theorem Ev.and{Q2:α->Prop}{r:Option α}(h:Ev Q r)(h2:Ev Q2 r):Ev (λa=>Q a/\Q2 a) r:=λa e=>⟨h a e,h2 a e⟩
theorem Ev.loop{B:σ->Option (σ⊕ε)}{E:ε->Prop}(I:σ->Prop)(h:∀s,I s->Ev (Sum.elim I E) (B s)){s:σ}(hs:I s):Ev E (ny B s):=by
 intro e he;obtain⟨n,hn⟩:=jP.1 he;clear he
 induction n generalizing s with
 |zero=>cases hn
 |succ n ih=>
  unfold lj at hn;cases hB:B s with
  |none=>rw[hB]at hn;cases hn
  |some r=>
   rw[hB]at hn;have hr:=h s hs r hB;cases r with
   |inl s'=>exact ih hr hn
   |inr e'=>exact Option.some.inj hn ▸ hr
theorem Ev.count{B:σ->Option (σ⊕ε)}{E:ε->Prop}(m:Nat->β->σ)(J:Nat->β->Prop)(h:∀k b,J k b->Ev (Sum.elim (λs=>∃b',s=m (k+1) b'/\J (k+1) b') E) (B (m k b))){b:β}(hb:J 0 b):Ev E (ny B (m 0 b)):=
 Ev.loop (λs=>∃k b,s=m k b/\J k b) (λs hs=>by
  obtain⟨k,b,rfl,hJ⟩:=hs;refine(h k b hJ).mono λr hr=>?_;cases r with
  |inl s=>obtain⟨b',e,hJ'⟩:=hr;exact⟨k+1,b',e,hJ'⟩
  |inr e=>exact hr) ⟨0,b,rfl,hb⟩
end
theorem SK(l:List rp):Ev (λy=>y.1=l) (Gt l):=by unfold Gt;exact .ip λ_=>.ret (bG l)
theorem adQ(a:List rp)(n:Int)(t:List rp):Ev (λy=>y.2.1=true->FE y.1=some (true,())/\∀e∈y.1,e∈a\/e∈t) (KP a n t):=by unfold KP;refine .bd λ_ _=>.brn (λ_=>.bd λ_ _=>.brn (λ_=>.br (λ_=>.ret nofun) λ_=>.ip λ_=>.bd λy3 _=>.br (λ_=>.ret nofun) λ_=>.bind (SK a) λy4 h4=>.ip λ_=>.ip λ_=>.bd λy5 h5=>.brn (λe5=>.ret λ_=>⟨by rw[h5];exact congrArg some (Prod.ext e5 rfl),λe he=>?_⟩) λ_=>.ret nofun) λ_=>.ret nofun) λ_=>.ret nofun;rw[h4]at he;exact(bC.1 he).imp id λh=>bF (bS h)
theorem ac5(s:qk):Ev (λy=>∀e∈y.1,e∈s.log) (Fl s):=by unfold Fl;refine .bd λ_ _=>.brn (λ_=>.br (λ_=>.ret nofun) λ_=>.ip λ_=>.bind (SK _) λy h=>.ret λe he=>?_) λ_=>.ret nofun;rw[h]at he;exact bF (bS he)
theorem adN(s:qk)(id:Int):Ev (λy=>∀e∈y.1,e∈s.learned\/e∈s.log) (L3 s id):=by unfold L3;refine .bd λ_ _=>.bind (SK _) λy2 h2=>?_;have h2:∀e∈y2.1,e∈s.learned\/e∈s.log:=λe he=>.inl (h2 ▸ he);exact .br (λ_=>.bind (ac5 s) λy hy=>.br (λ_=>.ret λe he=>.inr (hy e he)) λ_=>.ret h2) λ_=>.br (λ_=>.bind (ac5 s) λy hy=>.br (λ_=>.ret λe he=>.inr (hy e he)) λ_=>.ret h2) λ_=>.ret h2
end
section
theorem Xp{l:List rp}(hl:l.length<=maxLen)(h:FE l=some (true,())){e:Int}(he:Ik l=some (e,())):∀x∈l,x.epoch<=e:=by
 obtain⟨_,h2⟩:=(OS l hl).1 h
 have step:∀k (hk:k+1<l.length),(l[k]'(by omega)).epoch<=(l[k+1]'hk).epoch:=by intro k hk;have h3:=h2 (k+1) hk;unfold ZE at h3;rw[aq hk,show k+1-1=k from rfl,aq (by omega)]at h3;simp at h3;omega
 have chain:∀d k (hk:k+d<l.length),(l[k]'(by omega)).epoch<=(l[k+d]'hk).epoch:=by
  intro d
  induction d with
  |zero=>intro k hk;exact cW _
  |succ d ih=>intro k hk;exact Int.le_trans (ih k (by omega)) (step (k+d) hk)
 intro x hx;obtain⟨k,hk,rfl⟩:=aU hx;unfold Ik at he;unfold maxLen at hl;rw[show ((l.length:Int)==0)=false from beq_eq_false_iff_ne.2 (by omega),Ce,vP (by omega) (by omega),CA (by omega),aq (by omega),ao]at he;rw[<-(Prod.mk.inj (Option.some.inj he)).1];have h4:=chain (l.length-1-k) k (by omega);have e1:k+(l.length-1-k)=((l.length:Int)-1).toNat:=by omega
 simp only[e1]at h4;exact h4
theorem aau{l:List rp}{n:Int}(h0:0<=n)(h:∀x∈l,x.epoch<=n):Ev (λy=>y.1<=n) (Ik l):=by unfold Ik;exact .br (λ_=>.ret h0) λ_=>.ip λ_=>.bd λx hx=>.ret (h x (aA hx))
theorem YH{s:qk}{id:Int}(ok:Fs 1048576 s)(hv:EG s id=some (true,())):∀e∈s.log,e.epoch<=s.config.epoch:=by
 have hc:=EK ok.1;obtain⟨_,_,_,_,_,f6,f7,_⟩:=H8 ok hv;obtain⟨e,e1,_⟩:=Io s.log (EO ok.2.1);obtain⟨n,n1,_⟩:=Od s.config id hc;have no:∀ {P:Prop},some (false,())=some (true,())->P:=λh=>by cases h
 unfold EG at hv;simp only[FB,f6,f7,Kd s.config hc,n1,e1,ao,EE,C3]at hv;refine QL hv (λ_ hv=>QL hv (λ_ hv=>QL hv (λ_ hv=>QL hv (λ_ hv=>QL hv (λ_ hv=>QL hv (λ_ hv=>QL hv (λ_ hv=>QL hv (λh0 _=>?_) λ_ h=>no h) λ_ h=>no h) λ_ hv=>QL hv (λ_ hv=>QL hv (λ_ h=>no h) λ_ hv=>QL hv (λ_ h=>no h) λhle _=>?_) λ_ h=>no h) λ_ h=>no h) λ_ h=>no h) λ_ h=>no h) λ_ h=>no h) λ_ h=>no h
 ·have h0: (s.log.length:Int)=0:=eq_of_beq h0;rw[bc (by omega:s.log.length=0)];exact nofun
 ·have hle: ¬e>s.config.epoch:=of_decide_eq_false hle
  exactλx hx=>Int.le_trans (Xp (EO ok.2.1) f6 e1 x hx) (by omega)
theorem SV.old2{m:jZ}{s:qk}{k:Int}(h:SV m s k)(h0:0<=m.activated):s.config.epoch<=m.activated:=by
 rcases h.cfg with h| ⟨_,h⟩
 ·rw[h];exact h0
 ·exact h
theorem Z2{x:qh}(ok:EP 1048576 x)(hv:ED x=some (true,())){k:Nat}{s:qk}(hs:x.servers[k]?=some s):∀e,e∈s.learned\/e∈s.log->e.epoch<=x.master.activated:=by
 have vc:=EZ ok hv;obtain⟨_,f2,_⟩:=Np (Gp ok.2.2.1) vc.ml;have hlt:=Du hs;have sv:=PL ok hv k hlt;rw[aq hlt]at hs;rw[Option.some.inj hs]at sv;have oks:Fs 1048576 s:=Option.some.inj hs ▸ ok.1.2 _ (D6 hlt);obtain⟨_,_,_,_,_,_,f7,_⟩:=H8 oks sv.val
 rintro e (he|he)
 ·obtain⟨n,n1,n2⟩:=sv.lrn;exact Int.le_trans (Xp (EO oks.2.2) f7 n1 e he) n2
 ·exact Int.le_trans (YH oks sv.val e he) (sv.old2 f2)
def Lg(A:Int)(l:List rp):Prop:=FE l=some (true,())/\∀e∈l,e.epoch<=A
section
variable {x:qh} {A:Int} (hd:∀ (k:Nat) s,x.servers[k]?=some s->∀e,e∈s.learned\/e∈s.log->e.epoch<=A)
include hd
theorem adn(s0: (Int×Unit×Unit×Bool×Unit×Bool×Int×Unit×Int×Unit)×((Int×List qk×List Int×List nG×Int×Int×Int×Int×Int×List uQ×Unit)×(Int×Int×Unit×Unit×Unit)×(Bool×Bool×Int×Int×Int×Int×List Int×List Int×Int×List rp×Int×List rp×Unit)×Unit)×List rp×List Int×List Int×Unit)
  (h1:s0.2.1.1=fx x) (hw:∀e∈s0.2.1.2.2.1.2.2.2.2.2.2.2.2.2.1,e.epoch<=A) (h2:s0.1.2.2.2.1=true->Lg A s0.2.2.1):Ev (λe=>e.2.1.1=fx x/\(e.1.2.2.2.1=true->Lg A e.2.2.1)) (MW s0):=by
 refine .loop (B:=G3) (λs=>s.2.1.1=fx x/\(∀e∈s.2.1.2.2.1.2.2.2.2.2.2.2.2.2.1,e.epoch<=A)/\(s.1.2.2.2.1=true->Lg A s.2.2.1)) (λs hs=>?_) ⟨h1,hw,h2⟩;obtain⟨i1,i2,i3⟩:=hs;unfold G3;refine .br (λ_=>.ip λ_=>.bd λt ht=>?_) λ_=>.ret ⟨i1,i3⟩
 extract_lets j66
 generalize hQ: (Sum.elim (λs: (Int×Unit×Unit×Bool×Unit×Bool×Int×Unit×Int×Unit)×((Int×List qk×List Int×List nG×Int×Int×Int×Int×Int×List uQ×Unit)×(Int×Int×Unit×Unit×Unit)×(Bool×Bool×Int×Int×Int×Int×List Int×List Int×Int×List rp×Int×List rp×Unit)×Unit)×List rp×List Int×List Int×Unit=>s.2.1.1=fx x/\(∀e∈s.2.1.2.2.1.2.2.2.2.2.2.2.2.2.1,e.epoch<=A)/\(s.1.2.2.2.1=true->Lg A s.2.2.1)) (λe: (Int×Unit×Unit×Bool×Unit×Bool×Int×Unit)×((Int×List qk×List Int×List nG×Int×Int×Int×Int×Int×List uQ×Unit)×(Int×Int×Unit×Unit×Unit)×Unit)×List rp×List Int×List Int×Unit=>e.2.1.1=fx x/\(e.1.2.2.2.1=true->Lg A e.2.2.1)))=Q;have keep:Ev Q (j66 s.2.2.1 s.1.2.2.2.1):=hQ ▸ .ret ⟨i1,i2,i3⟩;refine .brn (λ_=>.bd λ_ _=>.brn (λ_=>.ip λ_=>.bd λu hu=>.bind (adN u _) λy hy=>.bind (adQ _ _ _) λz hz=>.br (λhz2=>?_) λ_=>keep) λ_=>keep) λ_=>keep
 have hu2:∀e,e∈u.learned\/e∈u.log->e.epoch<=A:=by rw[i1]at hu;exact hd _ u hu
 have new:Ev Q (j66 z.1 true):=hQ ▸ .ret ⟨i1,i2,λ_=>⟨(hz hz2).1,λe he=>((hz hz2).2 e he).elim (λh=>hu2 e (hy e h)) (i2 e)⟩⟩;exact .brn (λ_=>.br (λ_=>new) λ_=>keep) λ_=>new
theorem abq(id:Int):Ev (λy=>y.2.1=true->Lg A y.1) (GY x id):=by unfold GY;refine .bd λy1 _=>.bind (.loop (B:=GD) (E:=λe=>e.1.2.1=true->Lg A e.2.2.1) (λs=>s.2.1.1=fx x/\(s.1.2.2.2.1=true->Lg A s.2.2.1)) (λs hs=>?_) ⟨rfl,nofun⟩) λe he=>.ret he;obtain⟨i1,i2⟩:=hs;unfold GD;refine .br (λ_=>.br (λ_=>.bd λ_ _=>.br (λ_=>.bd λ_ _=>.br (λ_=>.ip λ_=>.bd λ_ _=>.ip λ_=>.bd λw hw=>.brn (λ_=>.brn (λ_=>.ip λ_=>.bd λ_ _=>.bd λ_ _=>.brn (λ_=>?_) λ_=>.ret ⟨i1,i2⟩) λ_=>.ret ⟨i1,i2⟩) λ_=>.ret ⟨i1,i2⟩) λ_=>.ret i2) λ_=>.ret i2) λ_=>.ret i2) λ_=>.ret i2;rw[i1]at hw;exact .bind (adn hd _ i1 (λe he=>hd _ w hw e (.inr he)) i2) λe he=>.ret ⟨he.1,he.2⟩
end
theorem ab6(x:qh)(ok:EP 1048576 x)(id:Int):Ev (λy=>y.2.1=true->Lg x.master.activated y.1) (Gx x id):=by
 unfold Gx;refine .bd λv hv=>.brn (λev=>.bd λ_ _=>.brn (λ_=>.br (λ_=>.ret λ_=>⟨VQ,nofun⟩) λ_=>.bd λn _=>.br (λ_=>.ip λ_=>.bd λs hs=>.bind (SK _) λy hy=>.ret λ_=>?_) λ_=>.bind (abq (A:=x.master.activated) (λk s hs=>?_) id) λy hy=>.ret hy) λ_=>.ret nofun) λ_=>.ret nofun
 all_goals have hv:ED x=some (true,()):=by rw[hv];exact congrArg some (Prod.ext ev rfl)
 ·show Lg _ y.1;rw[hy];have hlt:=Du hs;have sv:=PL ok hv n.1.toNat hlt;rw[aq hlt]at hs;rw[Option.some.inj hs]at sv;have oks:Fs 1048576 s:=Option.some.inj hs ▸ ok.1.2 _ (D6 hlt);exact⟨(H8 oks sv.val).2.2.2.2.2.1,λe he=>Z2 ok hv (k:=n.1.toNat) (by rw[aq hlt];exact hs) e (.inr he)⟩
 ·exact Z2 ok hv hs
end
section
theorem TO(c:nG):Ev (λy=>y.1=c) (H3 c):=by unfold H3;exact .ip λ_=>.ip λ_=>.ret rfl
structure Ins (s t:qk) (c:nG) (l:List rp) (n:Int):Prop where
 up:t.up=s.up
 intact:t.intact=true
 version:t.version=s.version
 epoch:t.epoch=c.epoch
 config:t.config=c
 first:t.first=if n=3 then((cutAt l:Nat):Int)else 0
 log:t.log=if n=3 then l.drop (cutAt l)else l
 commit:t.commit=(l.length:Int)
 learned:t.learned=[]
theorem aae{s:qk}{c:nG}{id n:Int}{l:List rp}(hn:Fm c id=some (n,()))(h0:n≠0)(hl:FE l=some (true,()))(hlen:l.length<=1048576)(hv:1<=s.version/\s.version<=2)(he:0<=s.epoch/\s.epoch<=c.epoch)(hc:0<=c.epoch)(ha:∀e∈l,e.epoch<=c.epoch)(hf:s.version=1->Ft l=some (false,())):Ev (λy=>Ins s y.1 c l n) (F1 s c id l):=by
 have e0: (n==0)=false:=beq_eq_false_iff_ne.2 h0;unfold F1;rw[hn,ao];show Ev _ (br (n==0) _ _);rw[e0,Ce,hl,ao];show Ev _ ((EN s.version 1 2).bind _);rw[FB,EI.2 hv,ao];show Ev _ ((EN s.epoch 0 c.epoch).bind _);rw[FB,EI.2 he,ao];refine .bind (aau hc ha) λy9 h9=>.br (λh=>absurd (of_decide_eq_true h) (by omega)) λ_=>?_
 extract_lets j18
 have hj:Ev (λy=>Ins s y.1 c l n) j18:=by
  unfold j18;refine .bind (TO c) λy13 h13=>.bind (SK l) λy14 h14=>.br (λh3=>?_) λh3=>?_
  ·have h3:n=3:=eq_of_beq h3;rw[TR l hlen];refine .ip λ_=>.bind (SK _) λy15 h15=>.ret ⟨rfl,rfl,rfl,rfl,h13,by rw[if_pos h3],?_,rfl,rfl⟩;rw[if_pos h3];show y15.1=_;rw[h15,D4,D4];exact bW (by rw[co];omega)
  ·have h3: ¬n=3:=ne_of_beq_false h3;exact .ret ⟨rfl,rfl,rfl,rfl,h13,by rw[if_neg h3],by rw[if_neg h3];exact h14,rfl,rfl⟩
 refine .br (λh1=>?_) λ_=>hj;rw[hf (eq_of_beq h1),ao];exact hj
structure Act0 (x y:qh) (c:nG) (M:List Int) (l:List rp):Prop where
 chosen:Gk x.master=some (c,true,())
 members:Fd c=some (M,())
 newer:x.master.activated≠c.epoch
 now:y.now=x.now
 sides:y.sides=x.sides
 up:y.masterUp=x.masterUp
 places:y.places=x.places
 lease:y.lease=⟨0,0,0⟩
 master:y.master=⟨x.master.configs,c.epoch⟩
 isLog:Lg x.master.activated l
 mem:∀z∈M,∃s t n,x.servers[z.toNat]?=some s/\s.up=true/\x.sides[z.toNat]?=some 0/\Fm c z=some (n,())/\y.servers[z.toNat]?=some t/\Ins s t c l n
 rest:∀ (j:Nat) s,x.servers[j]?=some s->(∀z∈M,z.toNat≠j)->∃ep,y.servers[j]?=some (M2 s ep)/\SV x.master (M2 s ep) (j:Int)
 len:y.servers.length=x.servers.length
structure ad9 (x y:qh) (c:nG) (M:List Int) (l:List rp):Prop extends Act0 x y c M l where
 source:Gx x c.primary=some (l,true,())
 sealed:∃w,GR x c.primary c.epoch=some (w,())/\∀ (j:Nat) s,w.servers[j]?=some s->(∀z∈M,z.toNat≠j)->y.servers[j]?=some s
theorem YJ{s:qk}{id:Int}(hv:EG s id=some (true,())):1<=s.version/\s.version<=2:=by
 unfold EG at hv;rw[FB,ao]at hv;cases h:HC s.version 1 2 with
 |true=>exact EI.1 h
 |false=>rw[h]at hv;cases hv
theorem abm{l:List Int}(h:SS l){i j:Nat}{a b:Int}(hi:l[i]?=some a)(hj:l[j]?=some b)(hij:i<j):a<b:=by have hj':=Du hj;have hi':=Du hi;rw[aq hi']at hi;rw[aq hj']at hj;rw[<-Option.some.inj hi,<-Option.some.inj hj];exact Ec.1 h i j hi' hj' hij
theorem Zj(x:qh)(ok:EP 1048576 x):Ev (λy=>y.2.1=0->ED x=some (true,())/\∃c M l,ad9 x y.1 c M l) (H1 x):=by
 obtain⟨v,hv,_⟩:=Fx x ok;obtain⟨c,b,c1,_,c3⟩:=Mx x.master (x.master.configs.length:Int) ok.2.2.1;unfold H1;have hch:Gk x.master=some (c,b,()):=by unfold Gk;rw[c1];rfl
 rw[(FO x ok).1,ao,hch,ao,hv,ao];refine .brn (λev=>?_) λ_=>.ret nofun;have ev:v=true:=ev;subst ev;have vc:=EZ ok hv;obtain⟨_,f2,f3⟩:=Np (Gp ok.2.2.1) vc.ml;have f20:=XA ok.2.2.1 vc.ml;refine .brn (λhb=>.br (λ_=>.ret nofun) λhne=>.br (λ_=>.ret nofun) λ_=>.ip λ_=>.bd λp _=>.brn (λ_=>.ip λ_=>.bd λ_ _=>.brn (λ_=>.bd λ_ _=>.brn (λ_=>?_) λ_=>.ret nofun) λ_=>.ret nofun) λ_=>.ret nofun) λ_=>.ret nofun;have hb:b=true:=hb;subst hb;have hne:c.epoch≠x.master.activated:=ne_of_beq_false hne;obtain⟨c',b',q1,_,_,q4,q5,_⟩:=IX x.master (x.master.configs.length:Int) ok.2.2.1 vc.ml;rw[c1]at q1;simp only[af,au,and_true]at q1;obtain⟨rfl,rfl⟩:=q1;obtain⟨cv,ce⟩:=q5 rfl;obtain⟨_,_,_,ce1,_⟩:=Gq c3 cv;obtain⟨w,w1,_,okw,wv⟩:=ad1 x ok c.primary c.epoch;obtain⟨hvw,se,W,hW⟩:=wv hv;have vcw:=EZ okw hvw;rw[w1,ao];refine .bd λy8 h8=>.brn (λe8=>?_) λ_=>.ret nofun;obtain⟨L,hasL,_⟩:=y8;have e8:hasL=true:=e8;subst e8;have lg:=ab6 x ok c.primary _ h8 rfl
 have Ll:L.length<=1048576:=by obtain⟨_,_,l',b',_,_,_,_,_,_,g,_,_,_,_,g2,_⟩:=abj x ok c.primary;rw[h8]at g;simp only[af,au,and_true]at g;rw[g.1];exact g2
 obtain⟨M,m1,_,m3,m4,m5,m6⟩:=Hy c c3;have mm:M.length<=maxLen:=by unfold maxLen;omega
 rw[m1,ao];have sw:∀k,k<M.length->IntKind.wrap .i64 ((k:Int)+1)=((k+1:Nat):Int):=λk hk=>Cb mm hk
 refine .bind (.count (B:=IA) (E:=Sum.elim (λe=>e.1.2.2.1=10) λe=>e.2=((fx x,fz,fc w,(c.epoch,c.primary,(),(),()),()),L,M,w.servers,w.sides,w.master.configs,w.places,c.replicas,c.witnesses,())/\∀j z,j<M.length->M[j]?=some z->∃s,x.servers[z.toNat]?=some s/\s.up=true/\x.sides[z.toNat]?=some 0)
  (λk (_:Unit)=>(((),(),(),(),(),(),(k:Int),()),(fx x,fz,fc w,(c.epoch,c.primary,(),(),()),()),L,M,w.servers,w.sides,w.master.configs,w.places,c.replicas,c.witnesses,()))
  (λk _=>k<=M.length/\∀j z,j<k->M[j]?=some z->∃s,x.servers[z.toNat]?=some s/\s.up=true/\x.sides[z.toNat]?=some 0) (λk _ hJ=>?_) (b:=()) ⟨bO _,λj z h=>absurd h (Ej j)⟩) λe he=>?_
 ·refine .br (λh=>.ip λ_=>.bd λz hz=>.ip λ_=>.bd λs hs=>.brn (λhu=>.ip λ_=>.bd λz2 hz2=>.ip λ_=>.bd λsd hsd=>.brn (λe0=>?_) λ_=>.ret rfl) λ_=>.ret rfl) λh=>.ret ⟨rfl,λj z hj=>hJ.2 j z ?_⟩
  ·have hk:k<M.length:=D7.1 (of_decide_eq_true h);have hz:M[k]?=some z:=hz;obtain rfl:z2=z:=Option.some.inj ((show M[k]?=some z2 from hz2).symm.trans hz);refine .ret ⟨(),by rw[sw k hk],hk,λj z' hj hz'=>?_⟩;by_cases hjk:j=k
   ·subst hjk;obtain rfl:=Option.some.inj (hz.symm.trans hz');exact⟨s,hs,hu,by rw[hsd,eq_of_beq e0]⟩
   ·exact hJ.2 j z' (by omega) hz'
  ·have : ¬ ((k:Int)<(M.length:Int)):=of_decide_eq_false h;omega
 cases e with
 |inl e=>exact .ret λh=>absurd ((show e.1.2.2.1=10 from he).symm.trans h) (by decide)
 |inr e=>
 obtain⟨he,hup⟩:=he;show Ev _ ((Mv (((),(),(),(),(),(),0,()),e.2)).bind _);rw[he]
 refine .bind (.count (B:=GQ) (E:=Sum.elim (λe=>e.1.2.2.1=6) λe=>e.2=((fx x,fz,fc w,(c.epoch,c.primary,(),(),()),()),L,M,w.servers,w.sides,w.master.configs,w.places,c.replicas,c.witnesses,())/\∀j z,j<M.length->M[j]?=some z->∀s,x.servers[z.toNat]?=some s->s.version=1->Ft L=some (false,()))
  (λk (_:Unit)=>(((),(),(),(),(),(),(k:Int),()),(fx x,fz,fc w,(c.epoch,c.primary,(),(),()),()),L,M,w.servers,w.sides,w.master.configs,w.places,c.replicas,c.witnesses,()))
  (λk _=>k<=M.length/\∀j z,j<k->M[j]?=some z->∀s,x.servers[z.toNat]?=some s->s.version=1->Ft L=some (false,())) (λk _ hJ=>?_) (b:=()) ⟨bO _,λj z h=>absurd h (Ej j)⟩) λe he=>?_
 ·refine .br (λh=>.ip λ_=>.bd λz hz=>.ip λ_=>.bd λs hs=>?_) λh=>.ret ⟨rfl,λj z hj=>hJ.2 j z ?_⟩
  ·have hk:k<M.length:=D7.1 (of_decide_eq_true h);have hz:M[k]?=some z:=hz
   have next: (s.version=1->Ft L=some (false,()))->k+1<=M.length/\∀j z,j<k+1->M[j]?=some z->∀s,x.servers[z.toNat]?=some s->s.version=1->Ft L=some (false,()):=λhn=>⟨hk,λj z' hj hz' s' hs' hv'=>by
    by_cases hjk:j=k
    ·subst hjk;obtain rfl:=Option.some.inj (hz.symm.trans hz');obtain rfl:=Option.some.inj ((show x.servers[z.toNat]?=some s from hs).symm.trans hs');exact hn hv'
    ·exact hJ.2 j z' (by omega) hz' s' hs' hv'⟩
   refine .br (λh1=>.bd λnf hnf=>.br (λ_=>.ret rfl) λh0=>.ret ⟨(),by rw[sw k hk],next λ_=>?_⟩) λh1=>.ret ⟨(),by rw[sw k hk],next λh=>absurd h (ne_of_beq_false h1)⟩;exact(show Ft L=some nf from hnf).trans (congrArg some (Prod.ext h0 rfl))
  ·have : ¬ ((k:Int)<(M.length:Int)):=of_decide_eq_false h;omega
 cases e with
 |inl e=>exact .ret λh=>absurd ((show e.1.2.2.1=6 from he).symm.trans h) (by decide)
 |inr e=>
 obtain⟨he,hnf⟩:=he;show Ev _ ((Oz (((),(),(),(),(),(),0,()),e.2)).bind _);rw[he]
 refine .bind (.count (B:=IB) (E:=λe=>∃S:List qk,S.length=w.servers.length/\(∀ (j:Nat) s,w.servers[j]?=some s->(∀i z,i<M.length->M[i]?=some z->z.toNat≠j)->S[j]?=some s)/\(∀i z,i<M.length->M[i]?=some z->∃s t n,w.servers[z.toNat]?=some s/\Fm c z=some (n,())/\S[z.toNat]?=some t/\Ins s t c L n)/\e=(((),(),(),(),()),(fx x,fz,fc w,(c.epoch,c.primary,(),(),()),()),S,w.sides,w.master.configs,w.places,c.replicas,c.witnesses,()))
  (λk (S:List qk)=>(((),(),(),(),(),(),(k:Int),()),(fx x,fz,fc w,(c.epoch,c.primary,(),(),()),()),L,M,S,w.sides,w.master.configs,w.places,c.replicas,c.witnesses,()))
  (λk S=>k<=M.length/\S.length=w.servers.length/\(∀ (j:Nat) s,w.servers[j]?=some s->(∀i z,i<k->M[i]?=some z->z.toNat≠j)->S[j]?=some s)/\∀i z,i<k->M[i]?=some z->∃s t n,w.servers[z.toNat]?=some s/\Fm c z=some (n,())/\S[z.toNat]?=some t/\Ins s t c L n) (λk S hJ=>?_) (b:=w.servers) ⟨bO _,rfl,λ_ _ h _=>h,λi z h=>absurd h (Ej i)⟩) λe he=>?_
 ·refine .br (λh=>.ip λ_=>.bd λz hz=>.ip λ_=>.bd λz1 hz1=>.ip λ_=>.bd λs hs=>.ip λ_=>.bd λz2 hz2=>.bd λs2 hs2=>.ip λ_=>.bd λs3 hs3=>.ip λ_=>.bd λs4 hs4=>.ip λ_=>.bd λs5 hs5=>.ip λ_=>?_) λh=>.ret ⟨S,hJ.2.1,?_,?_,rfl⟩
  ·have hk:k<M.length:=D7.1 (of_decide_eq_true h);have hz:M[k]?=some z:=hz;obtain rfl:z1=z:=Option.some.inj ((show M[k]?=some z1 from hz1).symm.trans hz);obtain rfl:z2=z1:=Option.some.inj ((show M[k]?=some z2 from hz2).symm.trans hz);have hs:S[z2.toNat]?=some s:=hs;obtain rfl:s2=s:=Option.some.inj ((show S[z2.toNat]?=some s2 from hs2).symm.trans hs);obtain rfl:s3=s2:=Option.some.inj ((show S[z2.toNat]?=some s3 from hs3).symm.trans hs);obtain rfl:s4=s3:=Option.some.inj ((show S[z2.toNat]?=some s4 from hs4).symm.trans hs);obtain rfl:s5=s4:=Option.some.inj ((show S[z2.toNat]?=some s5 from hs5).symm.trans hs);have hzM:=aA hz;have hzr:=m4 z2 hzM
   have hws:w.servers[z2.toNat]?=some s5:=by
    have hlt:z2.toNat<w.servers.length:=by rw[vcw.len];omega
    have h2:=hJ.2.2.1 _ _ (aq hlt) (λi z' hi hz' he=>by have:=abm m5 hz' hz hi;have:=m4 z' (aA hz');omega)
    rw[aq hlt,<-h2,hs]
   have hlt:=Du hws;have svw:=PL okw hvw z2.toNat hlt;rw[show w.servers[z2.toNat]=s5 from by rw[aq hlt]at hws;exact Option.some.inj hws]at svw;have oks:=okw.1.2 s5 (aA hws);obtain⟨_,_,_,_,_,_,_,p1,_⟩:=H8 oks svw.val;have hep:=svw.ep;rw[se.master]at hep;obtain⟨n,n1,_,n3,_⟩:=SH c z2 c3 cv;have hn0:n≠0:=λh=>n3.1 h ((m6 cv z2).1 hzM)
   have hI:=aae (s:=s5) n1 hn0 lg.1 Ll (YJ svw.val) ⟨p1,by omega⟩ (by omega) (λe he=>by have:=lg.2 e he;omega) (λh1=>by obtain⟨sx,sx1,_⟩:=HI ok vc hzr;obtain⟨ep,g1⟩:=se.srv _ _ sx1;rw[hws]at g1;exact hnf k z2 hk hz sx sx1 (by rw[Option.some.inj g1]at h1;exact h1))
   show Ev _ ((F1 ⟨s5.up,s5.intact,s5.version,s5.epoch,⟨s5.config.epoch,s5.config.primary,(s5.config.replicas.drop 0).take s5.config.replicas.length,(s5.config.witnesses.drop 0).take s5.config.witnesses.length⟩,s5.first,(s5.log.drop 0).take s5.log.length,s5.commit,(s5.learned.drop 0).take s5.learned.length⟩ ⟨c.epoch,c.primary,c.replicas,c.witnesses⟩ z2 L).bind _);rw[cE,cE,cE,cE,D9,D9,D9,D9];refine .bind hI λy hy=>.ip λ_=>.bd λ_ _=>.ret ⟨S.set z2.toNat y.1,by rw[sw k hk],hk,by rw[D8];exact hJ.2.1,λj t ht hno=>?_,λi z' hi hz'=>?_⟩
   ·rw[Ed (hno k z2 (cU k) hz)];exact hJ.2.2.1 j t ht λi z' hi=>hno i z' (by omega)
   ·by_cases hik:i=k
    ·subst hik;obtain rfl:=Option.some.inj (hz.symm.trans hz');exact⟨s5,y.1,n,hws,n1,Ea (Du hs),hy⟩
    ·obtain⟨a,t,n',a1,a2,a3,a4⟩:=hJ.2.2.2 i z' (by omega) hz';have:=abm m5 hz' hz (by omega);have:=m4 z' (aA hz');exact⟨a,t,n',a1,a2,by rw[Ed (by omega)];exact a3,a4⟩
  ·have : ¬ ((k:Int)<(M.length:Int)):=of_decide_eq_false h
   exactλj s hs hno=>hJ.2.2.1 j s hs λi z hi hz=>hno i z (Du hz) hz
  ·have : ¬ ((k:Int)<(M.length:Int)):=of_decide_eq_false h
   exactλi z hi hz=>hJ.2.2.2 i z (by omega) hz
 obtain⟨S,g1,g2,g3,rfl⟩:=he
 have hac:FQ x.master c.epoch=some (⟨x.master.configs,c.epoch⟩,true,()):=by unfold FQ;rw[(Pj x.master ok.2.2.1).1,ao,vc.ml,ao,ce,beq_self_eq_true,Dl];rw[if_neg (by omega)];rfl
 show Ev _ ((FQ x.master c.epoch).bind _);rw[hac,ao];refine .ret λ_=>⟨rfl,c,M,L,⟨⟨hch,m1,λh=>hne h.symm,by rw[hW],se.sides,by rw[hW],by rw[hW],rfl,rfl,lg,λz hz=>?_,λj s hs hno=>?_,?_⟩,h8,⟨w,w1,λj s hs hno=>g2 j s hs λi z _ hz=>hno z (aA hz)⟩⟩⟩
 ·obtain⟨i,hi,rfl⟩:=aU hz;have hg:M[i]?=some M[i] :=aq hi;obtain⟨s,s1,s2,s3⟩:=hup i _ hi hg;obtain⟨s',t,n,t1,t2,t3,t4⟩:=g3 i _ hi hg;obtain⟨ep,u1⟩:=se.srv _ _ s1;rw[t1]at u1;have u1:=Option.some.inj u1;exact⟨s,t,n,s1,s2,s3,t2,t3,t4.up.trans (by rw[u1]),t4.intact,t4.version.trans (by rw[u1]),t4.epoch,t4.config,t4.first,t4.log,t4.commit,t4.learned⟩
 ·obtain⟨ep,u1⟩:=se.srv _ _ hs;refine⟨ep,g2 j _ u1 λi z _ hz=>hno z (aA hz),?_⟩;have hlt:=Du u1;have svw:=PL okw hvw j hlt;rw[aq hlt]at u1;rw[Option.some.inj u1,se.master]at svw;exact svw
 ·show S.length=x.servers.length;rw[g1,vcw.len,vc.len]
end
section
theorem TV{l:List rp}(hl:l.length<=maxLen)(h:FE l=some (true,()))(n:Nat):FE (l.drop n)=some (true,()):=by
 obtain⟨h1,h2⟩:=(OS l hl).1 h;refine(OS _ (by rw[co];omega)).2 ⟨by rw[co];omega,λk hk=>?_⟩;rw[co]at hk;have h3:=h2 (n+k) (by omega);unfold ZE at h3 ⊢;rw[bh];cases k with
 |zero=>rw[bI]at h3 ⊢;rw[aq (by omega)]at h3 ⊢;simp at h3 ⊢;exact⟨h3.1,h3.2.1⟩
 |succ k=>rw[bh,show n+(k+1)-1=n+k from by omega,aq (by omega),aq (by omega)]at*;simp at h3 ⊢;exact h3
theorem aei{m:jZ}(hl:m.configs.length<=maxLen)(h:∀k (hk:k<m.configs.length),EH m.configs[k]=some (true,())/\m.configs[k].epoch=(k:Int)+1)(ha:0<=m.activated/\m.activated<=(m.configs.length:Int)):EU m=some (true,()):=by
 refine Tt.tru ?_;unfold EU;refine .bind (.count (B:=FF) (E:=Sum.elim (λ_=>False) λe=>e.2.1.1=(m.configs,m.activated,())) m.configs.length (λk (_:Unit)=>(((),(k:Int),()),((m.configs,m.activated,()),()),())) (λ_ _=>True) (λ_ _=>.end (Eb _) (.ret rfl)) (λk _ hk _=>.go (D7.2 hk) (.ip (D5 k) ?_)) () trivial) λe he=>?_
 ·have sw:=Cb hl hk;have hk2:=h k hk;have hg:m.configs[k]?=some m.configs[k] :=aq hk;generalize m.configs[k]=c at hg hk2;refine .get (tn hk) λc' hc' _=>?_;obtain rfl:c'=c:=Option.some.inj ((show m.configs[k]?=some c' from hc').symm.trans hg);refine .bind (Q:=λy=>y.1=true) ⟨_,hk2.1,rfl⟩ λy hy=>.br (λh=>by rw[hy]at h;cases h) λ_=>.ip (D5 k) (.get (tn hk) λd hd _=>.br (λhn=>?_) λ_=>.ret ⟨(),by rw[sw],trivial⟩);obtain rfl:d=c':=Option.some.inj ((show m.configs[k]?=some d from hd).symm.trans hg);have hn: (!(d.epoch==IntKind.wrap .i64 ((k:Int)+1)))=true:=hn;rw[sw,hk2.2]at hn;simp at hn
 ·cases e with
  |inl e=>exact he.elim
  |inr e=>show Tt _ ((EN e.2.1.1.2.1 0 (e.2.1.1.1.length:Int)).bind _);rw[show e.2.1.1=_ from he,FB,EI.2 ha];exact .ret rfl
theorem VN{m:jZ}(ok:Md 1048576 m)(hv:EU m=some (true,())){a:Int}(hv':EU ⟨m.configs,a⟩=some (true,()))(e:Int):FR ⟨m.configs,a⟩ e=FR m e:=by unfold FR;rw[hv,hv']
theorem acd{x:qh}(ok:EP 1048576 x)(hn:0<=x.now/\x.now<=999)(h5:x.servers.length=5)(hs:HD x.sides=some (true,()))(hm:EU x.master=some (true,()))(hu:0<=x.masterUp/\x.masterUp<=3)(hl:Hk x.lease=some (true,()))(hp:FG x.places=some (true,()))(he:x.lease.epoch<=x.master.activated)(hS:∀k (hk:k<x.servers.length),SV x.master x.servers[k] (k:Int)):ED x=some (true,()):=by
 rcases WT x ok with⟨_,h1⟩| ⟨⟨k,hk,h0⟩,_⟩
 ·unfold ED;rw[h1];simp only[FB,EI.2 hn,h5,hs,hm,EI.2 hu,hl,hp,ao,EE,C3,Dl,if_neg (show ¬x.lease.epoch>x.master.activated by omega)];rfl
 ·exact absurd (hS k hk) h0
theorem aaZ{c:nG}(h:1<=c.epoch):c≠⟨0,0,[],[]⟩:=λe=>by rw[e]at h;exact absurd h (by decide)
theorem aad{s t:qk}{c:nG}{l:List rp}{n z:Int}(okt:Fs 1048576 t)(h:Ins s t c l n)(hn:Fm c z=some (n,()))(h0:n≠0)(hl:FE l=some (true,()))(hlen:l.length<=maxLen)(hv:1<=s.version/\s.version<=2)(hc:1<=c.epoch/\c.epoch<=20)(ha:∀e∈l,e.epoch<=c.epoch):EG t z=some (true,()):=by
 have h16:=((OS l hlen).1 hl).1;have hcut:cutAt l<=l.length:=Nat.sub_le _ _
 have tlog:FE t.log=some (true,()):=by
  rw[h.log];split
  ·exact TV hlen hl _
  ·exact hl
 have tlen:t.first+(t.log.length:Int)=(l.length:Int)/\0<=t.first/\t.first<=16:=by
  rw[h.first,h.log];split
  ·rw[co];omega
  ·omega
 obtain⟨e,e1,_⟩:=Io t.log (EO okt.2.1)
 have he:e<=c.epoch:=(aau (by omega) (λx hx=>ha x (by
  rw[h.log]at hx;split at hx
  ·exact bF hx
  ·exact hx))) _ e1
 have hcv:=EK okt.1;unfold EG;rw[vP (n:=t.first+(t.log.length:Int)) (by omega) (by omega),tlen.1,h.learned,VQ,tlog,h.version,h.epoch,h.commit,Kd t.config hcv,h.config,hn,h.intact,e1];simp only[FB,EI.2 hv,EI.2 (show 0<=c.epoch/\c.epoch<=20 by omega),EI.2 tlen.2,EI.2 (show 0<=(l.length:Int)/\(l.length:Int)<=16 by omega),EI.2 (show 0<=(l.length:Int)/\(l.length:Int)<=(l.length:Int) by omega),ao,EE,C3,Dl,if_neg (aaZ hc.1),if_neg (show ¬c.epoch<c.epoch by omega),if_neg (show ¬e>c.epoch by omega),show (n==0)=false from beq_eq_false_iff_ne.2 h0,Ce];by_cases h3:n=3
 ·have hf:t.first=((cutAt l:Nat):Int):=by rw[h.first,if_pos h3]
  have hg: (t.log.length:Int)=(l.length:Int)-((cutAt l:Nat):Int):=by omega
  rw[show (n==3)=true from beq_iff_eq.2 h3,C3,if_pos (by rw[hg];unfold cutAt;omega),Gw];split
  ·rfl
  ·next hne=>
   rw[hf];have :cutAt l=0:=by unfold cutAt at*;omega
   rw[this];rfl
 ·have hf:t.first=0:=by rw[h.first,if_neg h3]
  rw[show (n==3)=false from beq_eq_false_iff_ne.2 h3,Ce,hf];rfl
theorem Act0.cfg{x y:qh}{c:nG}{M:List Int}{l:List rp}(ok:EP 1048576 x)(hv:ED x=some (true,()))(h:Act0 x y c M l):Gu maxLen c/\EH c=some (true,())/\c.epoch=(x.master.configs.length:Int)/\x.master.activated<c.epoch/\EU y.master=some (true,())/\FR y.master c.epoch=some (c,true,())/\(∀z∈M,0<=z/\z<5)/\(∀z,z∈M↔z∈c.replicas\/z∈c.witnesses):=by
 have vc:=EZ ok hv;obtain⟨f1,f2,f3⟩:=Np (Gp ok.2.2.1) vc.ml;obtain⟨c',b',q1,_,q3,_,q5,_⟩:=IX x.master (x.master.configs.length:Int) ok.2.2.1 vc.ml;have hch:=h.chosen;unfold Gk at hch;rw[q1]at hch;simp only[ao,af,au,and_true]at hch;obtain⟨rfl,rfl⟩:=hch;obtain⟨cv,ce⟩:=q5 rfl;have hne:=h.newer
 have hm:EU y.master=some (true,()):=by rw[h.master];exact aei (Gp ok.2.2.1).1 f1 ⟨by show 0<=c'.epoch;omega,by show c'.epoch<=(x.master.configs.length:Int);omega⟩
 obtain⟨M',m1,_,_,m4,_,m6⟩:=Hy c' q3;obtain rfl:M'=M:=(Prod.mk.inj (Option.some.inj (m1.symm.trans h.members))).1;refine⟨q3,cv,ce,by omega,hm,?_,m4,m6 cv⟩;rw[h.master]at hm ⊢;rw[VN ok.2.2.1 vc.ml hm,ce];exact q1
theorem WX{x y:qh}{c:nG}{M:List Int}{l:List rp}(ok:EP 1048576 x)(hv:ED x=some (true,()))(oky:EP 1048576 y)(hl:l.length<=maxLen)(h:Act0 x y c M l):ED y=some (true,()):=by
 have vc:=EZ ok hv;obtain⟨c3,cv,ce,ca,hm,hat,m4,m6⟩:=h.cfg ok hv;obtain⟨_,_,_,e1,e20,_⟩:=Gq c3 cv;have hcfg:y.master.configs=x.master.configs:=by rw[h.master]
 have hact:y.master.activated=c.epoch:=by rw[h.master]
 refine acd oky (by rw[h.now];exact vc.now) (by rw[h.len];exact vc.len) (by rw[h.sides];exact vc.sides) hm (by rw[h.up];exact vc.up) (by rw[h.lease];rfl) (by rw[h.places];exact vc.places) (by rw[h.lease,hact];show (0:Int)<=_;omega) λk hk=>?_;have hk':k<x.servers.length:=by rw[<-h.len];exact hk
 have sv:=PL ok hv k hk';by_cases hM:∃z∈M,z.toNat=k
 ·obtain⟨z,hz,rfl⟩:=hM;obtain⟨s,t,n,s1,_,_,n1,t1,hI⟩:=h.mem z hz;have hz4:=m4 z hz;have ez: ((z.toNat:Nat):Int)=z:=by omega
  rw[aq hk]at t1;rw[Option.some.inj t1,ez];rw[aq hk']at s1;rw[Option.some.inj s1]at sv;have okt:Fs 1048576 t:=Option.some.inj t1 ▸ oky.1.2 _ (D6 hk);obtain⟨n',n1',_,n3,_⟩:=SH c z c3 cv;obtain rfl:n'=n:=(Prod.mk.inj (Option.some.inj (n1'.symm.trans n1))).1;refine⟨aad okt hI n1 (λh0=>n3.1 h0 ((m6 z).1 hz)) h.isLog.1 hl (YJ sv.val) ⟨e1,e20⟩ λe he=>by have:=h.isLog.2 e he;omega,by rw[hI.epoch,hcfg];omega,⟨0,by rw[hI.learned];rfl,by rw[hact];omega⟩,.inr ?_⟩;rw[hI.config,hact];exact⟨hat,cW _⟩
 ·obtain⟨ep,t1,svw⟩:=h.rest k _ (aq hk') λz hz e=>hM ⟨z,hz,e⟩;rw[aq hk]at t1;rw[Option.some.inj t1];obtain⟨n,n1,n2⟩:=svw.lrn;refine⟨svw.val,by rw[hcfg];exact svw.ep,⟨n,n1,by rw[hact];omega⟩,svw.cfg.imp id λhc=>⟨?_,by rw[hact];have:=hc.2;omega⟩⟩;rw[h.master]at hm ⊢;rw[VN ok.2.2.1 vc.ml hm];exact hc.1
theorem aba{y:qh}{c:nG}{M:List Int}{t:qk}(oky:EP 1048576 y)(jA:ED y=some (true,()))(hla:EF y.master=some (c,true,()))(hm:Fd c=some (M,()))(t1:y.servers[c.primary.toNat]?=some t)(hpn:EV t c.primary=some (true,()))(he:t.config.epoch=c.epoch)(hh:∀z∈M,Fw y c.primary z=some (true,())):Fy y=some (c.primary,()):=by
 have fB:Ev (λr=>r.1=c.primary) (Fy y):=by
  unfold Fy;rw[hla,ao,jA,ao];refine .brn (λ_=>.brn (λ_=>.ip λ_=>.bd λp hp=>?_) nofun) nofun;obtain rfl:p=t:=Option.some.inj ((show y.servers[c.primary.toNat]?=some p from hp).symm.trans t1);show Ev _ ((EV p c.primary).bind _);rw[hpn,ao];refine .brn (λ_=>.ip λ_=>.bd λp2 hp2=>?_) nofun;obtain rfl:p2=p:=Option.some.inj ((show y.servers[c.primary.toNat]?=some p2 from hp2).symm.trans t1);refine .brn (λ_=>?_) λhf=>absurd (show (p2.config.epoch==c.epoch)=true by rw[he,beq_self_eq_true]) (by rw[show (p2.config.epoch==c.epoch)=false from hf];decide);show Ev _ ((Fd c).bind _);rw[hm,ao];refine .bind (.loop (B:=Gc) (E:=Sum.elim (λ_=>False) λe=>e.2.1.1.2.1=c.primary) (λs=>s.2=((fx y,(c.epoch,c.primary,(),(),()),()),M,c.replicas,c.witnesses,())) (λs hs=>?_) rfl) λe he=>?_
  ·obtain⟨a,b⟩:=s;have hs:b=_:=hs;subst hs;refine .br (λ_=>.ip λ_=>.bd λz hz=>?_) λ_=>.ret rfl;show Ev _ ((Fw y c.primary z).bind _);rw[hh z (aA (show M[_]?=some z from hz)),ao];exact .brn (λ_=>.ret rfl) nofun
  ·cases e with
   |inl e=>exact he.elim
   |inr e=>exact .ret he
 obtain⟨r,r1,_⟩:=J2 y oky;rw[r1,show r=c.primary from fB _ r1]
structure Srv (y:qh) (c:nG) (M:List Int) (t:qk):Prop where
 act:EF y.master=some (c,true,())
 mem:Fd c=some (M,())
 at':y.servers[c.primary.toNat]?=some t
 now:EV t c.primary=some (true,())
 ep:t.config.epoch=c.epoch
 rng:0<=c.primary/\c.primary<5
 hear:∀z∈M,Fw y c.primary z=some (true,())
theorem adb{x y:qh}{c:nG}{M:List Int}{l:List rp}(ok:EP 1048576 x)(hv:ED x=some (true,()))(oky:EP 1048576 y)(hl:l.length<=maxLen)(h:Act0 x y c M l):∃t,Srv y c M t:=by
 have jA:=WX ok hv oky hl h;have vcy:=EZ oky jA;obtain⟨c3,cv,ce,ca,hm,hat,m4,m6⟩:=h.cfg ok hv;obtain⟨_,_,cp,_⟩:=Gq c3 cv;have hpM:=(m6 c.primary).2 (.inl cp);have hp4:=m4 _ hpM;obtain⟨s,t,n,s1,s2,s3,n1,t1,hI⟩:=h.mem _ hpM
 have n1':Fm c c.primary=some (1,()):=by unfold Fm;rw[cv,ao,beq_self_eq_true];rfl
 obtain rfl:n=1:=(Prod.mk.inj (Option.some.inj (n1.symm.trans n1'))).1;have hlt:=Du t1;have ez: ((c.primary.toNat:Nat):Int)=c.primary:=by omega
 have sv:=PL oky jA _ hlt;have t1':=t1;rw[aq hlt]at t1';rw[Option.some.inj t1',ez]at sv
 have hla:EF y.master=some (c,true,()):=by unfold EF;rw[show y.master.activated=c.epoch by rw[h.master],hat];rfl
 have hpn:EV t c.primary=some (true,()):=by unfold EV;rw[sv.val,ao,hI.up,s2,hI.config,n1',ao,hI.epoch];show some ((c.epoch==c.epoch),())=_;rw[beq_self_eq_true]
 have tl:t.log=l:=by rw[hI.log,if_neg (by decide)]
 have hh:∀z∈M,Fw y c.primary z=some (true,()):=λz hz=>by have hz4:=m4 z hz;obtain⟨sz,tz,nz,z1,z2,z3,z4,z5,hZ⟩:=h.mem z hz;rw[(W5 y oky vcy hp4 hz4).1];unfold P1 Hm;rw[h.sides,s3,z3,z5,t1];simp only[hZ.up,z2,hZ.epoch,hI.epoch,hZ.commit,tl,hZ.config,hI.config,beq_self_eq_true,EA,cW,decide_true]
 exact⟨t,hla,h.members,t1,hpn,by rw[hI.config],hp4,hh⟩
theorem Zi{x y:qh}{c:nG}{M:List Int}{l:List rp}(ok:EP 1048576 x)(hv:ED x=some (true,()))(oky:EP 1048576 y)(hl:l.length<=maxLen)(h:Act0 x y c M l):Fy y=some (c.primary,()):=by obtain⟨t,ht⟩:=adb ok hv oky hl h;exact aba oky (WX ok hv oky hl h) ht.act ht.mem ht.at' ht.now ht.ep ht.hear
end
section
structure Vs (s:qk) (id n:Int):Prop where
 ver:1<=s.version/\s.version<=2
 ep:0<=s.epoch/\s.epoch<=20
 log:FE s.log=some (true,())
 lrn:FE s.learned=some (true,())
 first:0<=s.first/\s.first<=16
 len:s.first+(s.log.length:Int)<=16
 commit:0<=s.commit/\s.commit<=s.first+(s.log.length:Int)
 cfg:s.config≠⟨0,0,[],[]⟩
 intact:s.intact=true
 le:s.config.epoch<=s.epoch
 all:∀e∈s.log,e.epoch<=s.config.epoch
 role:Fm s.config id=some (n,())
 in':n≠0
 wit:n=3->s.log.length<=3/\(s.log.length=3\/s.first=0)
 rep:n≠3->s.first=0
theorem ad4{s:qk}{id n:Int}(ok:Fs 1048576 s)(h:Vs s id n)(h0:0<=s.config.epoch):EG s id=some (true,()):=by
 obtain⟨e,e1,_⟩:=Io s.log (EO ok.2.1);have he:e<=s.config.epoch:=aau h0 h.all _ e1;have hf:=h.first;have hl:=h.len;have hle:=h.le;unfold EG;rw[vP (n:=s.first+(s.log.length:Int)) (by omega) (by omega),h.log,h.lrn,Kd s.config (EK ok.1),h.role,h.intact,e1];simp only[FB,EI.2 h.ver,EI.2 h.ep,EI.2 hf,EI.2 (show 0<=s.first+(s.log.length:Int)/\s.first+(s.log.length:Int)<=16 by omega),EI.2 h.commit,ao,EE,C3,Dl,if_neg h.cfg,if_neg (show ¬s.epoch<s.config.epoch by omega),if_neg (show ¬e>s.config.epoch by omega),show (n==0)=false from beq_eq_false_iff_ne.2 h.in',Ce];by_cases h3:n=3
 ·obtain⟨w1,w2⟩:=h.wit h3;rw[show (n==3)=true from beq_iff_eq.2 h3,C3,if_pos (by omega),Gw];split
  ·rfl
  ·next hne=>rw[w2.resolve_left (by omega)];rfl
 ·rw[show (n==3)=false from beq_eq_false_iff_ne.2 h3,Ce,h.rep h3];rfl
theorem ada{s:qk}{id:Int}(ok:Fs 1048576 s)(hv:EG s id=some (true,()))(hc:s.config≠⟨0,0,[],[]⟩):∃n,Vs s id n:=by
 have hcc:=EK ok.1;obtain⟨f1,f2,f3,f4,f5,f6,f7,f8,f9⟩:=H8 ok hv;have hle:=ac9 ok hv;have hall:=YH ok hv;have hver:=YJ hv;obtain⟨e,e1,_⟩:=Io s.log (EO ok.2.1);obtain⟨n,n1,_⟩:=Od s.config id hcc;have no:∀ {P:Prop},some (false,())=some (true,())->P:=λh=>by cases h
 unfold EG at hv;rw[vP (n:=s.first+(s.log.length:Int)) (by omega) (by omega)]at hv;simp only[FB,f6,f7,Kd s.config hcc,decide_eq_false hc,n1,e1,ao,EE,C3,Ce]at hv;refine QL hv (λ_ hv=>QL hv (λ_ hv=>QL hv (λ_ hv=>QL hv (λhw hv=>QL hv (λ_ hv=>QL hv (λhi hv=>QL hv (λ_ h=>no h) λ_ hv=>QL hv (λ_ h=>no h) λ_ hv=>QL hv (λ_ h=>no h) λhn0 hv=>?_) λ_ h=>no h) λ_ h=>no h) λ_ h=>no h) λ_ h=>no h) λ_ h=>no h) λ_ h=>no h;have hw:=EI.1 hw;refine⟨n,hver,⟨f8,f9⟩,f6,f7,⟨f1,f2⟩,hw.2,⟨f4,f5⟩,hc,hi,hle,hall,n1,ne_of_beq_false hn0,λh3=>?_,λh3=>?_⟩
 ·rw[show (n==3)=true from beq_iff_eq.2 h3,C3]at hv;refine QL (x:=_) hv (λhl hv=>QL hv (λh3l _=>⟨?_,.inl ?_⟩) λ_ hv=>⟨?_,.inr ?_⟩) λ_ h=>no h
  ·have : (s.log.length:Int)<=3:=of_decide_eq_true hl;omega
  ·have : (s.log.length:Int)=3:=eq_of_beq h3l;omega
  ·have : (s.log.length:Int)<=3:=of_decide_eq_true hl;omega
  ·exact eq_of_beq (Prod.mk.inj (Option.some.inj hv)).1
 ·rw[show (n==3)=false from beq_eq_false_iff_ne.2 h3,Ce]at hv;exact eq_of_beq (Prod.mk.inj (Option.some.inj hv)).1
abbrev MQ(w:qk)(l:List rp)(n:Int):qk:=if n=3 then⟨w.up,w.intact,w.version,w.epoch,w.config,((cutAt l:Nat):Int),l.drop (cutAt l),w.commit,w.learned⟩else⟨w.up,w.intact,w.version,w.epoch,w.config,w.first,l,w.commit,w.learned⟩
structure Pu (x y:qh) (id m:Int):Prop where
 valid:ED x=some (true,())
 rid:0<=id/\id<5
 rm:0<=m/\m<5
 ex:∃u w n,x.servers[id.toNat]?=some u/\EV u id=some (true,())/\x.servers[m.toNat]?=some w/\Fw x id m=some (true,())/\Fm u.config m=some (n,())/\(∃M,Fd u.config=some (M,())/\m∈M)/\y=Gv x (x.servers.set m.toNat (MQ w u.log n))
theorem ac7(x:qh)(ok:EP 1048576 x)(id m:Int):Ev (λy=>(y.2.1=false/\y.1=x)\/(y.2.1=true/\Pu x y.1 id m)) (Ff x id m):=by
 obtain⟨b,b1,_,b2⟩:=Ke x ok id;have bad:Ev (λy:qh×Bool×Unit=>(y.2.1=false/\y.1=x)\/(y.2.1=true/\Pu x y.1 id m)) (some (x,false,())):=.ret (.inl ⟨rfl,rfl⟩);unfold Ff;rw[(FO x ok).1,ao,b1,ao];refine .brn (λe=>?_) λ_=>bad;obtain⟨hv,h0,h5,hp⟩:=b2 e;have vc:=EZ ok hv;refine .ip λ_=>.bd λs hs=>.bd λy hy=>?_;obtain⟨s',s1,s2,s3⟩:=HI ok vc ⟨h0,h5⟩;obtain rfl:s'=s:=Option.some.inj (s1.symm.trans hs);obtain⟨M,m1,_,m3,m4,_,_⟩:=Hy s'.config (EK s2.1);obtain rfl:y=(M,()):=Option.some.inj (hy.symm.trans m1);rw[(EY M m (by unfold maxLen;omega)).1,ao];refine .brn (λhm=>?_) λ_=>bad;have hmM:m∈M:=of_decide_eq_true hm;have hm:=m4 m hmM;refine .bd λh6 hh6=>.brn (λe6=>.ip λ_=>.bd λt ht=>.ip λ_=>.bd λu hu=>.bd λr hr=>?_) λ_=>bad;obtain rfl:t=s':=Option.some.inj ((show x.servers[id.toNat]?=some t from ht).symm.trans s1);obtain rfl:u=t:=Option.some.inj ((show x.servers[id.toNat]?=some u from hu).symm.trans s1);have hh:Fw x id m=some (true,()):=(show Fw x id m=some h6 from hh6).trans (congrArg some (Prod.ext e6 rfl));have hr:Fm u.config m=some (r.1,()):=hr;refine .br (λh3=>?_) λh3=>?_
 ·have h3:r.1=3:=eq_of_beq h3;rw[R9 u.log s2.2.1 (H8 s2 s3).2.2.2.2.2.1,ao];refine .ip λ_=>.ip λ_=>.bd λw hw=>.bd λw' hw'=>.ret (.inr ⟨rfl,hv,⟨h0,h5⟩,hm,u,w,r.1,s1,hp u s1,hw,hh,hr,⟨M,m1,hmM⟩,?_⟩);have hw:x.servers[m.toNat]?=some w:=hw;have hw': (x.servers.set m.toNat (⟨w.up,w.intact,w.version,w.epoch,w.config,((cutAt u.log:Nat):Int),w.log,w.commit,w.learned⟩:qk))[m.toNat]?=some w':=hw';rw[Ea (Du hw)]at hw';obtain rfl:=Option.some.inj hw';show (⟨x.now,(x.servers.set m.toNat _).set m.toNat _,x.sides,x.master,x.masterUp,x.lease,x.places⟩:qh)=_;rw[List.set_set,show MQ w u.log r.1=_ from if_pos h3]
 ·have h3: ¬r.1=3:=ne_of_beq_false h3;refine .bind (SK _) λy15 h15=>.ip λ_=>.bd λw hw=>.ret (.inr ⟨rfl,hv,⟨h0,h5⟩,hm,u,w,r.1,s1,hp u s1,hw,hh,hr,⟨M,m1,hmM⟩,?_⟩);rw[show MQ w u.log r.1=_ from if_neg h3];show (⟨x.now,x.servers.set m.toNat _,x.sides,x.master,x.masterUp,x.lease,x.places⟩:qh)=_;rw[h15]
theorem XX{x:qh}(ok:EP 1048576 x)(vc:VC x){a b:Int}(ha:0<=a/\a<5)(hb:0<=b/\b<5)(h:Fw x a b=some (true,())){p q:qk}(hp:x.servers[a.toNat]?=some p)(hq:x.servers[b.toNat]?=some q):q.up=true/\q.epoch=p.epoch/\q.commit<=(p.log.length:Int)/\q.config=p.config/\Hm x a=Hm x b:=by rw[(W5 x ok vc ha hb).1]at h;have h:=(Prod.mk.inj (Option.some.inj h)).1;unfold P1 at h;rw[hp,hq]at h;simp at h;exact⟨h.2.1.1.1,h.2.1.1.2,h.2.1.2,h.2.2,h.1⟩
theorem adC{w u:qk}{m n:Int}(h:Vs w m n)(hl:FE u.log=some (true,()))(h16:u.log.length<=16)(hc:w.commit<=(u.log.length:Int))(ha:∀e∈u.log,e.epoch<=w.config.epoch):Vs (MQ w u.log n) m n:=by
 have hcut:cutAt u.log<=u.log.length:=Nat.sub_le _ _;have hcut3:cutAt u.log=u.log.length-3:=rfl;have hm:u.log.length<=maxLen:=by unfold maxLen;omega
 unfold MQ;split
 ·next h3=>have ld: (u.log.drop (cutAt u.log)).length=u.log.length-cutAt u.log:=co;exact⟨h.ver,h.ep,TV hm hl _,h.lrn,by show 0<=((cutAt u.log:Nat):Int)/\((cutAt u.log:Nat):Int)<=16;omega,by show ((cutAt u.log:Nat):Int)+((u.log.drop (cutAt u.log)).length:Int)<=16;omega,⟨h.commit.1,by show w.commit<=((cutAt u.log:Nat):Int)+((u.log.drop (cutAt u.log)).length:Int);omega⟩,h.cfg,h.intact,h.le,λe he=>ha e (bF he),h.role,h.in',λ_=>⟨by show (u.log.drop (cutAt u.log)).length<=3;omega,by show (u.log.drop (cutAt u.log)).length=3\/((cutAt u.log:Nat):Int)=0;omega⟩,λhn=>absurd h3 hn⟩
 ·next h3=>have hf:=h.rep h3;exact⟨h.ver,h.ep,hl,h.lrn,h.first,by show w.first+(u.log.length:Int)<=16;omega,⟨h.commit.1,by show w.commit<=w.first+(u.log.length:Int);omega⟩,h.cfg,h.intact,h.le,ha,h.role,h.in',λhn=>absurd hn h3,h.rep⟩
theorem V5{x y:qh}(ok:EP 1048576 x){id m:Int}(h:Pu x y id m):EP 1048576 y/\ED y=some (true,()):=by
 obtain⟨u,w,n,u1,u2,w1,w2,n1,_,rfl⟩:=h.ex;have vc:=EZ ok h.valid;obtain⟨g1,g2,g3,g4,_⟩:=XX ok vc h.rid h.rm w2 u1 w1;have sv:=PL ok h.valid;have lu:=Du u1;have lw:=Du w1;have eu:x.servers[id.toNat]=u:=by rw[aq lu]at u1;exact Option.some.inj u1
 have ew:x.servers[m.toNat]=w:=by rw[aq lw]at w1;exact Option.some.inj w1
 have su:=sv id.toNat lu;have sw:=sv m.toNat lw;have zi: ((id.toNat:Nat):Int)=id:=by have:=h.rid;omega
 have zm: ((m.toNat:Nat):Int)=m:=by have:=h.rm;omega
 rw[eu,zi]at su;rw[ew,zm]at sw;have oku:=ok.1.2 u (aA u1);have okw:=ok.1.2 w (aA w1);have pf:=Kf oku u2;obtain⟨_,_,_,ce1,_⟩:=Gq (EK oku.1) pf.1;obtain⟨f1,f2,f3,f4,f5,f6,_⟩:=H8 oku su.val;obtain⟨n',hv⟩:=ada okw sw.val (by rw[g4];exact aaZ ce1)
 obtain rfl:n'=n:=by have:=hv.role;rw[g4,n1]at this;exact(Prod.mk.inj (Option.some.inj this)).1.symm
 have hvs:=adC (u:=u) hv f6 f3 g3 λe he=>by rw[g4];exact YH oku su.val e he
 have okv:Fs 1048576 (MQ w u.log n'):=by
  have hu:=oku.2.1;unfold MQ;split
  ·exact⟨okw.1,by show List.length _<=_;rw[co];omega,okw.2.2⟩
  ·exact⟨okw.1,hu,okw.2.2⟩
 have hcfg: (MQ w u.log n').config=w.config:=by unfold MQ;split<;>rfl
 have hep: (MQ w u.log n').epoch=w.epoch:=by unfold MQ;split<;>rfl
 have hlr: (MQ w u.log n').learned=w.learned:=by unfold MQ;split<;>rfl
 refine abe ok h.valid _ D8 (λt ht=>(cY ht).elim (ok.1.2 t) λe=>e ▸ okv) λk hk=>?_;rw[List.getElem_set];split
 ·next e=>subst e;rw[zm];exact⟨ad4 okv hvs (by rw[hcfg,g4];omega),by rw[hep];exact sw.ep,by rw[hlr];exact sw.lrn,by rw[hcfg];exact sw.cfg⟩
 ·exact sv k (by rw[D8]at hk;exact hk)
theorem aa5{x:qh}(ok:EP 1048576 x){id m:Int}(hv:ED x=some (true,()))(hid:0<=id/\id<5){u:qk}(u1:x.servers[id.toNat]?=some u)(u2:EV u id=some (true,())){M:List Int}(hM:Fd u.config=some (M,()))(hm:m∈M)(hh:Fw x id m=some (true,())):Ev (λy=>y.2.1=true) (Ff x id m):=by
 have hp:FZ x id=some (true,()):=by unfold FZ;rw[hv,ao,C3,FB,EI.2 (show 0<=id/\id<=4 by omega),ao,C3,CA hid.1,u1,ao,u2];rfl
 have oku:=ok.1.2 u (aA u1);obtain⟨M',m1,_,m3,_⟩:=Hy u.config (EK oku.1);obtain rfl:M'=M:=(Prod.mk.inj (Option.some.inj (m1.symm.trans hM))).1;unfold Ff;rw[(FO x ok).1,ao,hp,ao];refine .brn (λ_=>.ip λ_=>.bd λs hs=>?_) nofun;obtain rfl:s=u:=Option.some.inj ((show x.servers[id.toNat]?=some s from hs).symm.trans u1);rw[hM,ao,(EY M' m (by unfold maxLen;omega)).1,ao,decide_eq_true hm];refine .brn (λ_=>?_) nofun;rw[hh,ao];refine .brn (λ_=>.ip λ_=>.bd λ_ _=>.ip λ_=>.bd λ_ _=>.bd λ_ _=>.br (λ_=>.bd λ_ _=>.ip λ_=>.ip λ_=>.bd λ_ _=>.bd λ_ _=>.ret rfl) λ_=>.bd λ_ _=>.ip λ_=>.bd λ_ _=>.ret rfl) nofun
structure Ck (x y:qh):Prop where
 now:y.now=x.now
 sides:y.sides=x.sides
 master:y.master=x.master
 mup:y.masterUp=x.masterUp
 lease:y.lease=x.lease
 places:y.places=x.places
 len:y.servers.length=x.servers.length
 srv:∀ (j:Nat) s,x.servers[j]?=some s->∃t,y.servers[j]?=some t/\t.up=s.up/\t.version=s.version/\t.epoch=s.epoch/\t.config=s.config/\t.commit=s.commit/\t.learned=s.learned
theorem Ck.self(x:qh):Ck x x:=⟨rfl,rfl,rfl,rfl,rfl,rfl,rfl,λ_ s h=>⟨s,h,rfl,rfl,rfl,rfl,rfl,rfl⟩⟩
theorem Ck.trans{x y z:qh}(h:Ck x y)(k:Ck y z):Ck x z:=⟨k.now.trans h.now,k.sides.trans h.sides,k.master.trans h.master,k.mup.trans h.mup,k.lease.trans h.lease,k.places.trans h.places,k.len.trans h.len,λj s hs=>by obtain⟨t,t1,a1,a2,a3,a4,a5,a6⟩:=h.srv j s hs;obtain⟨u,u1,b1,b2,b3,b4,b5,b6⟩:=k.srv j t t1;exact⟨u,u1,b1.trans a1,b2.trans a2,b3.trans a3,b4.trans a4,b5.trans a5,b6.trans a6⟩⟩
theorem aa4{x y:qh}{id m:Int}(h:Pu x y id m):Ck x y:=by
 obtain⟨u,w,n,u1,u2,w1,w2,n1,_,rfl⟩:=h.ex;refine⟨rfl,rfl,rfl,rfl,rfl,rfl,D8,λj s hs=>?_⟩;by_cases hj:m.toNat=j
 ·subst hj;obtain rfl:w=s:=Option.some.inj (w1.symm.trans hs);refine⟨MQ w u.log n,Ea (Du w1),?_⟩;unfold MQ;split<;>exact⟨rfl,rfl,rfl,rfl,rfl,rfl⟩
 ·exact⟨s,(Ed hj).trans hs,rfl,rfl,rfl,rfl,rfl,rfl⟩
theorem XC{x y:qh}(ok:EP 1048576 x){id m:Int}(h:Pu x y id m){p:qk}(hp:x.servers[id.toNat]?=some p):y.servers[id.toNat]?=some p:=by
 obtain⟨u,w,n,u1,u2,w1,w2,n1,_,rfl⟩:=h.ex;obtain rfl:p=u:=Option.some.inj (hp.symm.trans u1);show (x.servers.set m.toNat (MQ w p.log n))[id.toNat]?=some p;by_cases hj:m.toNat=id.toNat
 ·have e:m=id:=by have:=h.rm;have:=h.rid;omega
  subst e;obtain rfl:w=p:=Option.some.inj (w1.symm.trans u1);have okp:=ok.1.2 w (aA u1);have pf:=Kf okp u2;obtain⟨n',n1',_,_,n4⟩:=SH w.config m (EK okp.1) pf.1;obtain rfl:n'=n:=(Prod.mk.inj (Option.some.inj (n1'.symm.trans n1))).1;have h3: ¬n'=3:=λh=>n4 h pf.2;rw[Ea (Du w1)];unfold MQ;rw[if_neg h3]
 ·rw[Ed hj];exact hp
theorem abB{x y:qh}(ok:EP 1048576 x)(oky:EP 1048576 y)(hv:ED x=some (true,()))(jA:ED y=some (true,()))(h:Ck x y){a b:Int}(ha:0<=a/\a<5)(hb:0<=b/\b<5){p:qk}(hp:x.servers[a.toNat]?=some p)(hpy:y.servers[a.toNat]?=some p)(hh:Fw x a b=some (true,())):Fw y a b=some (true,()):=by
 have vc:=EZ ok hv;have vcy:=EZ oky jA;obtain⟨q,q1,_⟩:=HI ok vc hb;obtain⟨t,t1,t2,_,t4,t5,t6,_⟩:=h.srv _ _ q1;obtain⟨g1,g2,g3,g4,g5⟩:=XX ok vc ha hb hh hp q1;rw[(W5 y oky vcy ha hb).1];unfold P1;rw[t1,hpy]
 have es:Hm y a=Hm y b:=by unfold Hm at g5 ⊢;rw[h.sides];exact g5
 simp only[t2,g1,t4,g2,t6,g3,t5,g4,es,beq_self_eq_true,decide_true,EA]
theorem XN{x:qh}(ok:EP 1048576 x){id:Int}(hv:ED x=some (true,()))(hid:0<=id/\id<5){u:qk}(u1:x.servers[id.toNat]?=some u)(u2:EV u id=some (true,())){M:List Int}(hM:Fd u.config=some (M,()))(hh:∀z∈M,Fw x id z=some (true,())):Ev (λy=>y.2.1=true) (Fr x id):=by
 have hp:FZ x id=some (true,()):=by unfold FZ;rw[hv,ao,C3,FB,EI.2 (show 0<=id/\id<=4 by omega),ao,C3,CA hid.1,u1,ao,u2];rfl
 have oku:=ok.1.2 u (aA u1);obtain⟨M',m1,_,m3,m4,_⟩:=Hy u.config (EK oku.1);obtain rfl:M'=M:=(Prod.mk.inj (Option.some.inj (m1.symm.trans hM))).1;have mm:M'.length<=maxLen:=by unfold maxLen;omega
 unfold Fr;rw[(FO x ok).1,ao,hp,ao];refine .brn (λ_=>.ip λ_=>.bd λs hs=>?_) nofun;obtain rfl:s=u:=Option.some.inj ((show x.servers[id.toNat]?=some s from hs).symm.trans u1);rw[hM,ao];refine .bind (.count (B:=F6) (E:=λe=>e.1.2.2.2.2.1=true) (λk (b:qh×Bool)=>((id,(),(),(),b.2,(k:Int),()),(fz,fc b.1,()),M',b.1.servers,b.1.sides,b.1.master.configs,b.1.places,())) (λk b=>b.2=true/\EP 1048576 b.1/\ED b.1=some (true,())/\Ck x b.1/\b.1.servers[id.toNat]?=some s) (λk b hJ=>?_) (b:=(x,true)) ⟨rfl,ok,hv,.self x,u1⟩) λe he=>.bind (.loop (B:=Fq) (E:=λe=>e.1.2.2.1=true) (λs=>s.1.2.2.2.2.1=true) (λs hs=>?_) he) λe he=>.ret he
 ·obtain⟨c,a⟩:=b;obtain⟨j1,j2,j3,j4,j5⟩:=hJ;have j1:a=true:=j1;subst j1;refine .br (λh=>.ip λ_=>.bd λz hz=>?_) λ_=>.ret rfl;have hk:k<M'.length:=D7.1 (of_decide_eq_true h);have hzM:z∈M':=aA (show M'[k]?=some z from hz);have hhz:=abB ok j2 hv j3 j4 hid (m4 z hzM) u1 j5 (hh z hzM);refine .bind ((ac7 c j2 id z).and (aa5 j2 j3 hid j5 u2 hM hzM hhz)) λw hw=>?_;obtain⟨hw1,hw2⟩:=hw;rcases hw1 with⟨h1,_⟩| ⟨_,h1⟩
  ·rw[h1]at hw2;cases hw2
  ·obtain⟨v1,v2⟩:=V5 j2 h1;exact .br (λ_=>.ret ⟨(w.1,w.2.1),by rw[Cb mm hk],hw2,v1,v2,j4.trans (aa4 h1),XC j2 h1 j5⟩) nofun
 ·unfold Fq;exact .br (λ_=>.br (λ_=>.ip λ_=>.bd λ_ _=>.ip λ_=>.bd λ_ _=>.ip λ_=>.bd λ_ _=>.ret hs) λ_=>.ret hs) λ_=>.ret hs
end
section
theorem ab3{y:qh}{c:nG}(oky:EP 1048576 y)(hla:EF y.master=some (c,true,())):Ev (λr=>0<=r.1->ED y=some (true,())/\∃M t,Srv y c M t) (Fy y):=by
 have no:Ev (λr:Int×Unit=>0<=r.1->ED y=some (true,())/\∃M t,Srv y c M t) (some (-1,())):=.ret λh=>absurd h (by decide);unfold Fy;rw[hla,ao];refine .bd λv hv=>.brn (λev=>.brn (λ_=>.ip λ_=>.bd λp hp=>.bd λpn hpn=>.brn (λepn=>.ip λ_=>.bd λp2 hp2=>.brn (λee=>.bd λM hM=>?_) λ_=>no) λ_=>no) λ_=>no) λ_=>no;have hv:ED y=some (true,()):=hv.trans (congrArg some (Prod.ext ev rfl));obtain⟨M,_⟩:=M;have hM:Fd c=some (M,()):=hM;have vc:=EZ oky hv;obtain⟨c',b',d1,_,d3,_,d5,_⟩:=H9 y oky hv;rw[hla]at d1;simp only[af,au,and_true]at d1;obtain⟨rfl,rfl⟩:=d1;obtain⟨cv,_⟩:=d5 rfl;obtain⟨a1,_,cp,_⟩:=Gq d3 cv;have hp4:=Jc a1 _ cp;obtain⟨M',m1,_,m3,m4,_⟩:=Hy c d3;obtain rfl:M'=M:=(Prod.mk.inj (Option.some.inj (m1.symm.trans hM))).1;have mm:M'.length<=maxLen:=by unfold maxLen;omega
 obtain rfl:p2=p:=Option.some.inj ((show y.servers[c.primary.toNat]?=some p2 from hp2).symm.trans hp);have hpn:EV p2 c.primary=some (true,()):=(show EV p2 c.primary=some pn from hpn).trans (congrArg some (Prod.ext epn rfl));refine .bind (.count (B:=Gc) (E:=Sum.elim (λe=>e.1.1= -1) λe=>∀j z,j<M'.length->M'[j]?=some z->Fw y c.primary z=some (true,())) (λk (_:Unit)=>(((),(),(),(k:Int),()),(fx y,(c.epoch,c.primary,(),(),()),()),M',c.replicas,c.witnesses,())) (λk _=>k<=M'.length/\∀j z,j<k->M'[j]?=some z->Fw y c.primary z=some (true,())) (λk _ hJ=>?_) (b:=()) ⟨bO _,λj z h=>absurd h (Ej j)⟩) λe he=>?_
 ·refine .br (λh=>.ip λ_=>.bd λz hz=>.bd λr hr=>.brn (λer=>?_) λ_=>.ret rfl) λh=>.ret λj z hj=>hJ.2 j z ?_
  ·have hk:k<M'.length:=D7.1 (of_decide_eq_true h);have hz:M'[k]?=some z:=hz;have hh:Fw y c.primary z=some (true,()):=(show Fw y c.primary z=some r from hr).trans (congrArg some (Prod.ext er rfl));refine .ret ⟨(),by rw[Cb mm hk],hk,λj z' hj hz'=>?_⟩;by_cases hjk:j=k
   ·subst hjk;obtain rfl:=Option.some.inj (hz.symm.trans hz');exact hh
   ·exact hJ.2 j z' (by omega) hz'
  ·have : ¬ ((k:Int)<(M'.length:Int)):=of_decide_eq_false h;omega
 ·cases e with
  |inl e=>refine .ret λh=>?_;have h:0<=e.1.1:=h;rw[show e.1.1= -1 from he]at h;exact absurd h (by decide)
  |inr e=>
   refine .ret λ_=>⟨hv,M',p2,hla,hM,hp,hpn,eq_of_beq ee,hp4,λz hz=>?_⟩
   obtain⟨j,hj,rfl⟩:=aU hz;exact he j _ hj (aq hj)
theorem ads(x:qh)(ok:EP 1048576 x)(to:Int):Ev (λy=>y.1=0->∃a M t,ED x=some (true,())/\Srv x a M t/\to∈a.replicas/\to≠a.primary/\(x.master.configs.length:Int)=a.epoch/\a.epoch≠20) (G6 x to):=by
 obtain⟨a,d,d1,_,d3⟩:=NN x ok;unfold G6;rw[d1,ao];refine .bd λv hv=>.brn (λev=>.brn (λhd=>?_) λ_=>.ret nofun) λ_=>.ret nofun;have hd:d=true:=hd;subst hd;rw[(EY a.replicas to d3.1).1,ao];refine .brn (λht=>.br (λ_=>.ret nofun) λhne=>.brn (λhl=>.br (λ_=>.ret nofun) λh20=>.br (λ_=>.ret nofun) λ_=>.bd λs hs=>.brn (λes=>?_) λ_=>.ret nofun) λ_=>.ret nofun) λ_=>.ret nofun;obtain⟨n,n1,_,n3⟩:=J2 x ok;have hsv:HO x=some s:=hs;unfold HO at hsv;rw[n1,ao]at hsv;have hn:0<=n:=of_decide_eq_true ((congrArg Prod.fst (Option.some.inj hsv)).trans es);obtain⟨hvx,M,t,hS⟩:=ab3 ok d1 _ n1 hn;have fin:∃a' M t,ED x=some (true,())/\Srv x a' M t/\to∈a'.replicas/\to≠a'.primary/\(x.master.configs.length:Int)=a'.epoch/\a'.epoch≠20:=⟨a,M,t,hvx,hS,of_decide_eq_true ht,ne_of_beq_false hne,eq_of_beq hl,ne_of_beq_false h20⟩
 exact .ip λ_=>.bd λ_ _=>.brn (λ_=>.br (λ_=>.brn (λ_=>.ret λ_=>fin) λ_=>.ret nofun) λ_=>.ret λ_=>fin) λ_=>.ret nofun
def Rl(S T:List qk):Prop:=T.length=S.length/\∀ (j:Nat) s,S[j]?=some s->∃t,T[j]?=some t/\t.up=s.up/\t.version=s.version/\t.epoch=s.epoch/\t.config=s.config/\t.learned=s.learned/\t.first=s.first/\t.log=s.log
theorem Rl.set{S T:List qk}(h:Rl S T){i:Nat}{q:qk}(hq:T[i]?=some q)(n:Int):Rl S (T.set i ⟨q.up,q.intact,q.version,q.epoch,q.config,q.first,q.log,n,q.learned⟩):=
 ⟨by rw[D8];exact h.1,λj s hs=>by
  obtain⟨t,t1,t2⟩:=h.2 j s hs;by_cases hj:i=j
  ·subst hj;obtain rfl:t=q:=Option.some.inj (t1.symm.trans hq);exact⟨_,Ea (Du hq),t2⟩
  ·exact⟨t,by rw[Ed hj];exact t1,t2⟩⟩
theorem abw(x:qh)(ok:EP 1048576 x)(id:Int):Ev (λy=>∃c,EP 1048576 c/\Ck x c/\(∀p,x.servers[id.toNat]?=some p->c.servers[id.toNat]?=some p)/\∃S,Rl c.servers S/\y.1=Gv c S) (Fr x id):=by
 unfold Fr;rw[(FO x ok).1,ao];refine .bd λ_ _=>.brn (λ_=>.ip λ_=>.bd λs hs=>.bd λM hM=>?_) λ_=>.ret ⟨x,ok,.self x,λ_ h=>h,x.servers,⟨rfl,λj s h=>⟨s,h,rfl,rfl,rfl,rfl,rfl,rfl,rfl⟩⟩,rfl⟩;refine .bind (.loop (B:=F6) (E:=λe=>∃c,EP 1048576 c/\Ck x c/\(∀p,x.servers[id.toNat]?=some p->c.servers[id.toNat]?=some p)/\e.1.1=id/\e.2=((fz,fc c,()),M.1,c.servers,c.sides,c.master.configs,c.places,())) (λs=>∃c,EP 1048576 c/\Ck x c/\(∀p,x.servers[id.toNat]?=some p->c.servers[id.toNat]?=some p)/\s.1.1=id/\s.2=((fz,fc c,()),M.1,c.servers,c.sides,c.master.configs,c.places,())) (λs hs=>?_) ⟨x,ok,.self x,λ_ h=>h,rfl,rfl⟩) λe he=>?_
 ·obtain⟨c,h1,h2,h3,h4,h5⟩:=hs;obtain⟨a,b⟩:=s;have h5:b=_:=h5;subst h5;have h4:a.1=id:=h4;refine .br (λ_=>.ip λ_=>.bd λz _=>?_) λ_=>.ret ⟨c,h1,h2,h3,h4,rfl⟩;show Ev _ ((Ff c a.1 z).bind _);rw[h4];refine .bind (ac7 c h1 id z) λw hw=>?_
  have next:EP 1048576 w.1/\Ck x w.1/\∀p,x.servers[id.toNat]?=some p->w.1.servers[id.toNat]?=some p:=by
   rcases hw with⟨_,e⟩| ⟨_,hp⟩
   ·rw[e];exact⟨h1,h2,h3⟩
   ·exact⟨(V5 h1 hp).1,h2.trans (aa4 hp),λp hp'=>XC h1 hp (h3 p hp')⟩
  exact .br (λ_=>.ret ⟨w.1,next.1,next.2.1,next.2.2,rfl,rfl⟩) λ_=>.ret ⟨w.1,next.1,next.2.1,next.2.2,rfl,rfl⟩
 obtain⟨c,h1,h2,h3,h4,h5⟩:=he;obtain⟨ea,eb⟩:=e;have h5:eb=_:=h5;subst h5;refine .bind (.loop (B:=Fq) (E:=λe=>e.2.1=(fz,fc c,())/\Rl c.servers e.2.2.1/\e.2.2.2=(c.sides,c.master.configs,c.places,())) (λs=>s.2.1=(fz,fc c,())/\Rl c.servers s.2.2.2.1/\s.2.2.2.2=(c.sides,c.master.configs,c.places,())) (λs hs=>?_) ⟨rfl,⟨rfl,λj s h=>⟨s,h,rfl,rfl,rfl,rfl,rfl,rfl,rfl⟩⟩,rfl⟩) λe he=>?_
 ·obtain⟨g1,g2,g3⟩:=hs;unfold Fq;exact .br (λ_=>.br (λ_=>.ip λ_=>.bd λz _=>.ip λ_=>.bd λu _=>.ip λ_=>.bd λq hq=>.ret ⟨g1,g2.set hq _,g3⟩) λ_=>.ret ⟨g1,g2,g3⟩) λ_=>.ret ⟨g1,g2,g3⟩
 ·obtain⟨g1,g2,g3⟩:=he;refine .ret ⟨c,h1,h2,h3,e.2.2.1,g2,?_⟩;rw[g1,g3]
theorem adO{x:qh}(ok:EP 1048576 x)(hv:ED x=some (true,())){c:nG}(hc:EF x.master=some (c,true,())){k:Nat}{p:qk}(hp:x.servers[k]?=some p)(he:p.config.epoch=c.epoch):p.config=c:=by
 obtain⟨c',b',d1,_,d3,_,d5,_⟩:=H9 x ok hv;rw[hc]at d1;simp only[af,au,and_true]at d1;obtain⟨rfl,rfl⟩:=d1;obtain⟨cv,ce⟩:=d5 rfl;obtain⟨_,_,_,e1,_⟩:=Gq d3 cv;have hlt:=Du hp;have sv:=PL ok hv k hlt;rw[aq hlt]at hp;rw[Option.some.inj hp]at sv;rcases sv.cfg with h| ⟨h,_⟩
 ·rw[h]at he;have : (0:Int)=c.epoch:=he;omega
 ·unfold EF at hc;rw[he,ce]at h;rw[h,ao]at hc;simp only[af,au,and_true]at hc;exact hc
theorem aa3(x:qh)(ok:EP 1048576 x)(n:nG):Ev (λy=>y.1=x\/(ED x=some (true,())/\EH n=some (true,())/\n.epoch=(x.master.configs.length:Int)+1/\y.1=⟨x.now,x.servers,x.sides,⟨x.master.configs++ [n],x.master.activated⟩,x.masterUp,x.lease,x.places⟩)) (Ge x n):=by
 unfold Ge;rw[(FO x ok).1,ao];refine .bd λv hv=>.brn (λev=>.br (λ_=>.ret (.inl rfl)) λ_=>?_) λ_=>.ret (.inl rfl);have hv:ED x=some (true,()):=hv.trans (congrArg some (Prod.ext ev rfl));have vc:=EZ ok hv;have hml:=XA ok.2.2.1 vc.ml
 have pc:Ev (λy=>y.2.1=true->EH n=some (true,())/\n.epoch=(x.master.configs.length:Int)+1/\y.1=⟨x.master.configs++ [n],x.master.activated⟩) (GK x.master n):=by unfold GK;rw[(Pj x.master ok.2.2.1).1,ao];refine .bd λ_ _=>.brn (λ_=>.bd λw hw=>.brn (λew=>.brn (λee=>.bind (TO n) λy hy=>.ip λ_=>.ret λ_=>⟨hw.trans (congrArg some (Prod.ext ew rfl)),?_,by rw[hy]⟩) λ_=>.ret nofun) λ_=>.ret nofun) λ_=>.ret nofun;rw[eq_of_beq ee,vP (by omega) (by omega)]
 refine .bind pc λy hy=>.brn (λe=>.ret (.inr ⟨hv,(hy e).1,(hy e).2.1,?_⟩)) λ_=>.ret (.inl rfl);rw[(hy e).2.2]
def Cd(x:qh)(e id z:Int):Prop:=∃s,x.servers[z.toNat]?=some s/\s.up=true/\s.config.epoch=e/\F5 x.sides id z=some (true,())
theorem ad3{x:qh}(ok:EP 1048576 x)(hv:ED x=some (true,())){a:nG}(hla:EF x.master=some (a,true,()))(hr:a.replicas.length<=maxLen){id:Int}(hid:0<=id/\id<5):Ev (λy=>(∀z∈y.1,z∈a.replicas)/\∀z∈a.replicas,Cd x a.epoch id z->z∈y.1) (GL x id):=by
 unfold GL;rw[hla,ao];refine .bind (.count (B:=GW) (E:=λe=>(∀z∈e.2.2.1,z∈a.replicas)/\∀z∈a.replicas,Cd x a.epoch id z->z∈e.2.2.1) (λk (b:List Int)=>((id,(),(),(),true,(k:Int),()),(fx x,(a.epoch,a.primary,(),(),()),()),(b,a.replicas,a.witnesses,()))) (λk b=>k<=a.replicas.length/\(∀z∈b,z∈a.replicas)/\∀j z,j<k->a.replicas[j]?=some z->Cd x a.epoch id z->z∈b) (λk b hJ=>?_) (b:=[]) ⟨bO _,nofun,λj z h=>absurd h (Ej j)⟩) λe he=>.ret he;refine .br (λh=>.br (λ_=>.bd λy20 h20=>?_) nofun) λh=>.ret ⟨hJ.2.1,λz hz hc=>?_⟩
 ·obtain rfl:y20=(true,()):=Option.some.inj ((show ED x=some y20 from h20).symm.trans hv);refine .br (λ_=>.bd λy21 h21=>?_) nofun;have h21:EN id 0 4=some y21:=h21;rw[FB,EI.2 (show 0<=id/\id<=4 by omega)]at h21;obtain rfl:=(Option.some.inj h21)
  refine .br (λ_=>.ip λ_=>.bd λz hz=>.ip λ_=>.bd λs hs=>?_) nofun;have hk:k<a.replicas.length:=D7.1 (of_decide_eq_true h);have hz:a.replicas[k]?=some z:=hz;have hs:x.servers[z.toNat]?=some s:=hs;have sw:=Cb hr hk;have hzR:=aA hz
  have keep: ¬Cd x a.epoch id z->k+1<=a.replicas.length/\(∀z∈b,z∈a.replicas)/\∀j z,j<k+1->a.replicas[j]?=some z->Cd x a.epoch id z->z∈b:=λhn=>⟨hk,hJ.2.1,λj z' hj hz' hc=>by
   by_cases hjk:j=k
   ·subst hjk;obtain rfl:=Option.some.inj (hz.symm.trans hz');exact absurd hc hn
   ·exact hJ.2.2 j z' (by omega) hz' hc⟩
  have new:k+1<=a.replicas.length/\(∀y∈b++ [z],y∈a.replicas)/\∀j y,j<k+1->a.replicas[j]?=some y->Cd x a.epoch id y->y∈b++ [z] :=⟨hk,λy hy=>by
   rcases bC.1 hy with h|h
   ·exact hJ.2.1 y h
   ·rw[aL.1 h];exact hzR,λj y hj hy hc=>by
   by_cases hjk:j=k
   ·subst hjk;obtain rfl:=Option.some.inj (hz.symm.trans hy);exact List.mem_append_right _ aK
   ·exact bR _ (hJ.2.2 j y (by omega) hy hc)⟩
  refine .br (λhu=>.br (λhe=>.ip λ_=>.bd λz2 hz2=>.bd λsd hsd=>.br (λhd=>.ip λ_=>.bd λz3 hz3=>.ip λ_=>.ret ⟨b++ [z3],by rw[sw],?_⟩) λhd=>.ret ⟨b,by rw[sw],keep ?_⟩) λhe=>.ret ⟨b,by rw[sw],keep ?_⟩) λhu=>.ret ⟨b,by rw[sw],keep ?_⟩
  ·obtain rfl:z3=z:=Option.some.inj ((show a.replicas[k]?=some z3 from hz3).symm.trans hz);exact new
  ·rintro⟨t,t1,_,_,t4⟩
   obtain rfl:z2=z:=Option.some.inj ((show a.replicas[k]?=some z2 from hz2).symm.trans hz);have:=(show F5 x.sides id z2=some sd from hsd).symm.trans t4;rw[Option.some.inj this]at hd;cases hd
  ·rintro⟨t,t1,_,t3,_⟩
   obtain rfl:=Option.some.inj (hs.symm.trans t1);exact ne_of_beq_false he t3
  ·rintro⟨t,t1,t2,_⟩
   obtain rfl:=Option.some.inj (hs.symm.trans t1);rw[t2]at hu;cases hu
 ·have : ¬ ((k:Int)<(a.replicas.length:Int)):=of_decide_eq_false h;obtain⟨j,hj,rfl⟩:=aU hz;exact hJ.2.2 j _ (by omega) (aq hj) hc
theorem XP(L:List nG)(n:nG)(act:Int)(hl:L.length<=100):Ev (λy=>y.2.1=true->y.1=n) (Gk ⟨L++ [n],act⟩):=by unfold Gk;refine .bind (Q:=λy=>y.2.1=true->y.1=n) ?_ λy hy=>.ret hy;unfold FR;refine .bd λ_ _=>.brn (λ_=>.bd λ_ _=>.brn (λ_=>.ip λ_=>.bd λc hc=>.bind (TO c) λy hy=>.ret λ_=>?_) λ_=>.ret nofun) λ_=>.ret nofun;have hc: (L++ [n])[(IntKind.wrap .i64 (((L++ [n]).length:Int)-1)).toNat]?=some c:=hc;rw[bL,cy,vP (by omega) (by omega),show (((L.length+1:Nat):Int)-1).toNat=L.length by omega,be (az _),c9]at hc;rw[hy];exact(Option.some.inj hc).symm
theorem Zo(L:List nG)(n:nG)(act e:Int)(hl:L.length<=100)(h1:EU ⟨L,act⟩=some (true,()))(h2:EU ⟨L++ [n],act⟩=some (true,()))(he:1<=e/\e<=(L.length:Int)):FR ⟨L++ [n],act⟩ e=FR ⟨L,act⟩ e:=by unfold FR;rw[h1,h2];simp only[FB,EI.2 he,EI.2 (show 1<=e/\e<=(((L++ [n]).length:Nat):Int) by rw[bL,cy];omega),ao,EE,C3];rw[vP (by omega) (by omega),aW (by omega)]
theorem abl{x:qh}(ok:EP 1048576 x)(hv:ED x=some (true,())){a:nG}(hla:EF x.master=some (a,true,()))(hr:a.replicas.length<=maxLen){id:Int}(hid:0<=id/\id<5)(hact:x.master.activated≠0){L:List rp}(hall:∀z∈a.replicas,∀s,x.servers[z.toNat]?=some s->s.log=L){z0:Int}(hz0:z0∈a.replicas)(hcd:Cd x a.epoch id z0):Ev (λy=>y.1=L) (Gx x id):=by
 obtain⟨S,s1,_,s3,s4⟩:=Ry ok ok hv hv (.refl x) hid;obtain⟨i1,i2⟩:=ad3 ok hv hla hr hid _ s1
 have hne:S≠ [] :=λh=>by have:=i2 z0 hz0 hcd;rw[show ((S,()):List Int×Unit).1=S from rfl,h]at this;cases this
 have hb:=ZW x ok hv s1 s3 s4;unfold Gx;rw[hv,ao];refine .brn (λ_=>?_) nofun;rw[FB,EI.2 (show 0<=id/\id<=4 by omega),ao];refine .brn (λ_=>.br (λh=>absurd (eq_of_beq h) hact) λ_=>.bd λn hn=>?_) nofun;have hn2:n.1∈S:=((hb.is hn).2 hne)
 have hn0:=s4 _ hn2;refine .br (λ_=>.ip λ_=>.bd λs hs=>.bind (SK _) λy hy=>.ret ?_) λh=>absurd (of_decide_eq_false h) (λh=>h hn0.1);show y.1=L;rw[hy];exact hall _ (i1 _ hn2) s hs
theorem ab9(x:qh)(ok:EP 1048576 x)(to:Int):Ev (λy=>y.2.1=0->∃a p t,EF x.master=some (a,true,())/\x.servers[a.primary.toNat]?=some p/\EP 1048576 y.1/\Fy y.1=some (to,())/\y.1.servers[to.toNat]?=some t/\t.log=p.log) (FP x to):=by
 unfold FP;rw[(FO x ok).1,ao];refine .bind (ads x ok to) λy2 hmay=>.brn (λe2=>?_) λhn=>.ret λh=>absurd h (ne_of_beq_false hn);obtain⟨a,M,p,hv,hS,hto,hne,hlen,h20⟩:=hmay (eq_of_beq e2);have vc:=EZ ok hv;have hml:=XA ok.2.2.1 vc.ml;obtain⟨a',b',d1,_,d3,r5,w5,_,_,_⟩:=WW ok hv;have d1':=d1;rw[hS.act]at d1;simp only[af,au,and_true]at d1;obtain⟨rfl,rfl⟩:=d1;obtain⟨a',b',g1,_,_,_,g5,_⟩:=H9 x ok hv;rw[hS.act]at g1;simp only[af,au,and_true]at g1;obtain⟨rfl,rfl⟩:=g1;obtain⟨av,ae⟩:=g5 rfl;obtain⟨_,_,ap,ae1,_⟩:=Gq d3 av;have hpc:p.config=a:=adO ok hv hS.act hS.at' hS.ep;rw[hS.act,ao];refine .bd λy4 hy4=>.bd λy5 hy5=>.bd λy6 hy6=>.ret λh6=>?_;have hy4:Fr x a.primary=some y4:=hy4;obtain⟨c4,ok4,ck,hself,S,rl,e4⟩:=abw x ok a.primary y4 hy4;have hfl:=XN ok hv hS.rng hS.at' hS.now (M:=M) (by rw[hpc];exact hS.mem) hS.hear y4 hy4;obtain⟨q,_,_,q1,_,_,q5⟩:=(Z1 x ok a.primary).is hy4 hfl;have okc:=((V8 x ok a.primary).is hy4).1;obtain⟨q',q1',_,_,_,qc,_,_,ql⟩:=rl.2 _ _ (hself p hS.at');rw[e4]at q1 q5 okc;obtain rfl:q'=q:=Option.some.inj (q1'.symm.trans q1);have hqM:Fd q'.config=some (M,()):=by rw[qc,hpc];exact hS.mem
 have okx0:EP 1048576 (⟨c4.now,S,c4.sides,c4.master,c4.masterUp,⟨0,0,0⟩,c4.places⟩:qh):=okc;have hm4:c4.master=x.master:=ck.master
 have hy5:Ge (⟨c4.now,S,c4.sides,c4.master,c4.masterUp,⟨0,0,0⟩,c4.places⟩:qh) ⟨IntKind.wrap .i64 (a.epoch+1),to,a.replicas,a.witnesses⟩=some y5:=by have:=hy5;rw[e4]at this;exact this
 have ok5:EP 1048576 y5.1:=by
  obtain⟨y,k,k1,_,k3,_⟩:=Te _ okx0 ⟨IntKind.wrap .i64 (a.epoch+1),to,a.replicas,a.witnesses⟩ ⟨by show a.replicas.length<=_;omega,by show a.witnesses.length<=_;omega⟩;rw[k1]at hy5;obtain rfl:=(Option.some.inj hy5)
  exact k3
 have hy6:H1 y5.1=some y6:=hy6;obtain⟨hv5,c',M',l,hA⟩:=Zj y5.1 ok5 y6 hy6 h6;have ok6:=((QA y5.1 ok5).is hy6).1;rcases aa3 _ okx0 _ y5 hy5 with e5| ⟨_,nv,ne,e5⟩
 ·exfalso;have hch:=hA.chosen;have hnw:=hA.newer;rw[e5]at hch hnw;have hch:Gk c4.master=some (c',true,()):=hch;have hnw:c4.master.activated≠c'.epoch:=hnw;rw[hm4]at hch hnw;have hla:=hS.act;unfold Gk at hch;unfold EF at hla;rw[hlen,ae]at hch;rw[hla]at hch;simp only[af,au,and_true]at hch;rw[<-hch,ae]at hnw;exact hnw rfl
 ·have hch:=hA.chosen;rw[e5]at hch;have hc':c'=⟨IntKind.wrap .i64 (a.epoch+1),to,a.replicas,a.witnesses⟩:=XP c4.master.configs _ _ (by rw[hm4];omega) _ hch rfl;subst hc';have vc5:=EZ ok5 hv5;have hsrv5:y5.1.servers=S:=by rw[e5]
  have hml5:y5.1.master=⟨x.master.configs++ [⟨IntKind.wrap .i64 (a.epoch+1),to,a.replicas,a.witnesses⟩],x.master.activated⟩:=by rw[e5,<-hm4]
  have m5:=vc5.ml;rw[hml5]at m5
  have hla5:EF y5.1.master=some (a,true,()):=by rw[hml5];unfold EF;rw[Zo x.master.configs _ x.master.activated x.master.activated (by omega) vc.ml m5 (by omega)];exact hS.act
  obtain⟨ar,_⟩:=Gq d3 av;have hto5:=Jc ar to hto;obtain⟨M0,k1,_,k3,k4,_,k6⟩:=Hy a d3;obtain rfl:M0=M:=(Prod.mk.inj (Option.some.inj (k1.symm.trans hS.mem))).1;obtain⟨_,_,_,_,_,_,n4,n6⟩:=hA.cfg ok5 hv5
  have role:∀z∈a.replicas,∃n,Fm a z=some (n,())/\(n==3)=false:=λz hz=>by
   unfold Fm;rw[av,ao];cases hzp:z==a.primary with
   |true=>exact⟨1,rfl,rfl⟩
   |false=>refine⟨2,?_,rfl⟩;show br (!true) _ (br false _ _)=_;rw[dg,Ce,Ce,(EY a.replicas z d3.1).1,decide_eq_true hz];rfl
  have hall:∀z∈a.replicas,∀s,y5.1.servers[z.toNat]?=some s->s.log=p.log:=λz hz s hs=>by
   have hzM:=(k6 av z).2 (.inl hz);have hz5:=k4 z hzM;rw[hsrv5]at hs;obtain⟨_,_,hq⟩:=q5 M0 hqM z hzM;obtain⟨_,_,_,hlog⟩:=hq s hs;obtain⟨w,w1,w2,_⟩:=HI ok vc hz5;obtain⟨_,_,_,wc,_⟩:=XX ok vc hS.rng hz5 (hS.hear z hzM) hS.at' w1;obtain⟨v,v1,_,_,_,vcfg,_⟩:=ck.srv _ _ w1;obtain⟨s',s1,_,_,_,sc,_⟩:=rl.2 _ _ v1;obtain rfl:s'=s:=Option.some.inj (s1.symm.trans hs);have hsc:s'.config=a:=by rw[sc,vcfg,wc,hpc]
   obtain⟨n,r1,r2⟩:=role z hz;have hlt:z.toNat<y5.1.servers.length:=by rw[vc5.len];omega
   have sv:=PL ok5 hv5 _ hlt
   have es:y5.1.servers[z.toNat]=s':=by
    have :y5.1.servers[z.toNat]?=some s':=by rw[hsrv5];exact hs
    rw[aq hlt]at this;exact Option.some.inj this
   rw[es,show ((z.toNat:Nat):Int)=z by omega]at sv;have hf:=VO (ok5.1.2 s' (es ▸ D6 hlt)) sv.val (by rw[hsc];exact r1) r2;rw[hlog,hf,ql];rfl
  obtain⟨sp,tp,np,p1,p2,p3,_⟩:=hA.mem a.primary ((n6 _).2 (.inl ap));obtain⟨st,tt,nt,t1,t2,t3,t4,t5,hI⟩:=hA.mem to ((n6 _).2 (.inl hto))
  have hsp:sp=q':=by have:=p1;rw[hsrv5,q1]at this;exact(Option.some.inj this).symm
  have hcd:Cd y5.1 a.epoch to a.primary:=⟨sp,p1,p2,by rw[hsp,qc,hpc],by rw[(LK y5.1 ok5 vc5 hto5 hS.rng).1];unfold Hm;rw[t3,p3];rfl⟩
  have hl:l=p.log:=abl ok5 hv5 hla5 d3.1 hto5 (by rw[hml5];show x.master.activated≠0;omega) hall ap hcd _ hA.source;have hlm:l.length<=maxLen:=by rw[hl];exact EO (ok.1.2 p (aA hS.at')).2.1
  have hrole:nt=1:=by unfold Fm at t4;rw[nv,ao]at t4;rw[show (to==(⟨IntKind.wrap .i64 (a.epoch+1),to,a.replicas,a.witnesses⟩:nG).primary)=true from beq_self_eq_true to]at t4;exact(Prod.mk.inj (Option.some.inj t4)).1.symm
  exact⟨a,p,tt,rfl,hS.at',ok6,Zi ok5 hv5 ok6 hlm hA.toAct0,t5,by rw[hI.log,hrole,if_neg (by decide)];exact hl⟩
end
section
theorem aag(l:uN):Tt (λy=>y.1=true->l=⟨0,0,0⟩\/((1<=l.epoch/\l.epoch<=20)/\(0<=l.holder/\l.holder<=4)/\1<=l.ends/\l.ends<=1049)) (Hk l):=by unfold Hk;simp only[FB,ao];refine .br (λh=>.ret λ_=>.inl ?_) λ_=>.br (λh1=>.br (λh2=>.ret λh3=>.inr ⟨EI.1 h1,EI.1 h2,EI.1 h3⟩) λ_=>.ret nofun) λ_=>.ret nofun;simp only[df,ak,beq_iff_eq]at h;obtain⟨e,h,n⟩:=l;simp only at h;obtain⟨rfl,rfl,rfl⟩:=h;rfl
def Gr(l:uN)(e h n:Int)(g:uN):Prop:=g.epoch=e/\g.holder=h/\(1<=e/\e<=20)/\(0<=h/\h<=4)/\(0<=n/\n<=999)/\n<g.ends/\g.ends<=1049/\(l.epoch=e->l.holder=h->l.ends<=g.ends)
theorem Zp{l:uN}(h:Hk l=some (true,())):l=⟨0,0,0⟩\/1<=l.ends:=((aag l).is h rfl).imp id λh=>h.2.2.1
theorem Gr.ok{l g:uN}{e h n:Int}(hg:Gr l e h n g):Hx g=some (true,())/\Hn g n=some (false,())/\RC g e h n=some (decide (n+3<g.ends),()):=by
 obtain⟨rfl,rfl,h1,h2,h3,h4,h5,_⟩:=hg;have hz: (g.ends==0)=false:=beq_eq_false_iff_ne.2 (by omega)
 have il:Hx g=some (true,()):=by unfold Hx;simp only[hz,EC,Ew,Ce,Kb,EI.2 h1,EI.2 h2,EI.2 (show 1<=g.ends/\g.ends<=1049 by omega),ao,C3]
 refine⟨il,?_,?_⟩
 ·unfold Hn LR;simp only[il,Kb,EI.2 h3,ao,C3,EE,hz,EC,Ew,Ce,Gw,Dl];rw[vP (n:=g.ends+3) (by omega) (by omega)];simp only[show ¬g.ends=0 by omega,if_false,ao,decide_eq_false (show ¬n≥g.ends+3 by omega)]
 ·unfold RC;simp only[il,Kb,EI.2 h3,ao,C3,EE,hz,EC,Ew,Ce,Gw,if_true];rw[vP (n:=n+3) (by omega) (by omega)]
section
variable [dE]
end
end
section
theorem adr(x:qh)(ok:EP 1048576 x)(to:Int):∃n:Int,G6 x to=some (n,())/\JL x to=some (n,()):=by
 obtain⟨v,v1,v2⟩:=Fx x ok;obtain⟨a,d,d1,d2,d3⟩:=NN x ok;unfold G6 JL HN;simp only[d1,d2,v1,v2,ao,EE];cases v with
 |false=>exact⟨1,rfl,rfl⟩
 |true=>
 cases d with
 |false=>exact⟨1,rfl,rfl⟩
 |true=>
 have vc:=EZ ok v1;obtain⟨a',b',g1,_,_,_,g5,_⟩:=H9 x ok v1;rw[d1]at g1;simp only[af,au,and_true]at g1;obtain⟨rfl,rfl⟩:=g1;obtain⟨av,ae⟩:=g5 rfl;obtain⟨w,w1,w2⟩:=HS a d3;rw[av]at w1;simp only[af,au,and_true]at w1;subst w1;obtain⟨_,f2,f3⟩:=Np (Gp ok.2.2.1) vc.ml;obtain⟨ar,_,ap,_⟩:=Gq d3 av;have hp4:=Jc ar _ ap;have hup:=vc.up;have e1:IntKind.wrap .i64 (x.masterUp*2)=x.masterUp*2:=vP (by omega) (by omega);have e2:IntKind.wrap .i64 (2*x.masterUp)=x.masterUp*2:=by rw[vP (by omega) (by omega),Int.mul_comm]
 obtain⟨s,s1,s2⟩:=Zu x ok;have hsl:=J3 (EO ok.2.1) vc.sides;have gs:x.sides[a.primary.toNat]?=some (x.sides[a.primary.toNat]'(by omega)):=aq (by omega);simp only[C3,I0,w2,(EY a.replicas to d3.1).1,(EY a.replicas to d3.1).2,(EY a.witnesses to d3.2).2,s1,s2,gs,e1,e2,ao,EE,Dl,Gw,Cy,if_pos hp4.1];by_cases hto:to∈a.replicas
 case neg=>have hne:to≠a.primary:=λh=>hto (h ▸ ap);refine⟨1,by simp only[if_neg hto],?_⟩;simp only[if_neg hto,if_neg hne];by_cases hw:to∈a.witnesses<;>simp[hw]
 by_cases hne:to=a.primary
 ·refine⟨1,by simp only[if_pos hto,if_pos hne],?_⟩;simp[hne]
 simp only[if_pos hto,if_neg hne,ao,if_true];by_cases hl: (x.master.configs.length:Int)=a.epoch
 case neg=>exact⟨1,by simp only[if_neg hl],by simp only[if_pos (show (x.master.configs.length:Int)>a.epoch by omega)]⟩
 simp only[if_pos hl,if_neg (show ¬ (x.master.configs.length:Int)>a.epoch by omega)];by_cases h20:a.epoch=20
 ·exact⟨1,by simp only[if_pos h20],by simp only[if_pos h20]⟩
 simp only[if_neg h20];by_cases hm:x.masterUp*2<=3
 ·exact⟨8,by simp only[if_pos hm],by simp only[if_neg (show ¬x.masterUp*2>3 by omega)]⟩
 simp only[if_neg hm,if_pos (show x.masterUp*2>3 by omega)];cases s with
 |false=>exact⟨10,rfl,rfl⟩
 |true=>
 simp only[C3];by_cases h0: (x.sides[a.primary.toNat]'(by omega))=0
 case neg=>exact⟨10,by simp only[if_neg h0],by simp only[if_neg h0]⟩
 simp only[if_pos h0];rcases Zp vc.lease with hz|hz
 ·simp only[hz,beq_self_eq_true,EA,C3];exact⟨0,by simp,rfl⟩
 ·simp only[if_pos (show x.lease.ends>0 by omega),show (x.lease.ends==0)=false from beq_eq_false_iff_ne.2 (by omega),EC,Ew,Ce];by_cases hh:x.lease.holder=a.primary
  ·exact⟨0,by simp only[if_pos hh],by simp only[if_pos hh]⟩
  ·exact⟨7,by simp only[if_neg hh],by simp only[if_neg hh]⟩
theorem ab8(x:qh)(ok:EP 1048576 x)(to:Int):∃y n,FP x to=some (y,n,())/\Js x to=some (y,n,())/\EP 1048576 y:=by
 obtain⟨n,n1,n2⟩:=adr x ok to;unfold FP Js;simp only[(FO x ok).1,(FO x ok).2,n1,n2,ao,EE,Gw];by_cases hn:n=0
 case neg=>exact⟨x,n,by simp only[if_neg hn],by simp only[if_neg hn],ok⟩
 simp only[if_pos hn];obtain⟨a0,M,t,hv,_⟩:=ads x ok to _ n1 hn;obtain⟨a,d,d1,d2,_,r5,w5,_⟩:=WW ok hv;obtain⟨S,b,c1,c2,okS,_⟩:=QS x ok a.primary;simp only[d1,d2,c1,c2,ao];have okx0:EP 1048576 (⟨x.now,S,x.sides,x.master,x.masterUp,⟨0,0,0⟩,x.places⟩:qh):=okS;obtain⟨y,k,k1,k2,oky,_⟩:=Te _ okx0 ⟨IntKind.wrap .i64 (a.epoch+1),to,a.replicas,a.witnesses⟩ ⟨by show a.replicas.length<=_;omega,by show a.witnesses.length<=_;omega⟩;simp only[k1,k2,ao];obtain⟨z,m,z1,z2,okz,_⟩:=WY y oky;simp only[z1,z2,ao];exact⟨z,m,rfl,rfl,okz⟩
end
section
theorem adV(x:qh)(ok:EP 1048576 x)(id:Int):∃n,JQ x id=some (n,())/\JM x id=some (n,())/\((∀q,x.servers[id.toNat]?=some q->q.commit=(q.log.length:Int))->n=0):=by
 obtain⟨b,b1,b2,b3⟩:=Ke x ok id;unfold JQ JM;simp only[b1,b2,ao,EE];cases b with
 |false=>exact⟨0,rfl,rfl,λ_=>rfl⟩
 |true=>obtain⟨hv,h0,h5,_⟩:=b3 rfl;obtain⟨s,s1,_⟩:=HI ok (EZ ok hv) ⟨h0,h5⟩;simp only[C3,Cy,if_pos h0,s1,ao];refine⟨_,rfl,rfl,λh=>?_⟩;rw[h s rfl,Int.sub_self];rfl
end
section
theorem UZ(a b:List rp)(ha:a.length<=maxLen):∃n:Nat,Lb a b=some ((n:Int),())/\n<=a.length/\n<=b.length/\a.take n=b.take n/\(n<a.length->n<b.length->a[n]? ≠b[n]?):=RA a b ha
theorem abD{a b:List rp}(ha:a.length<=maxLen)(h:∀ (i:Nat) e,a[i]?=some e->b[i]?=some e):Nx a b=some (true,()):=by
 obtain⟨n,n1,n2,n3,_,n5⟩:=UZ a b ha
 have hn:n=a.length:=by
  rcases Nat.lt_or_eq_of_le n2 with hlt|e
  ·have hb:=h n _ (aq hlt);exact absurd ((aq hlt).trans hb.symm) (n5 hlt (Du hb))
  ·exact e
 unfold Nx;rw[n1,ao,hn,beq_self_eq_true]
theorem aa8(a:List Int)(ha:a.length<=maxLen):NL a a=some (true,()):=by
 refine Tt.tru ?_;unfold NL;rw[beq_self_eq_true,dg,Ce];refine .bind (.count (B:=M9) (E:=Sum.elim (λ_=>False) λ_=>True) a.length (λk (_:Unit)=>((a,a,(k:Int),()),(),())) (λ_ _=>True) (λ_ _=>.end (Eb _) (.ret trivial)) (λk _ hk _=>?_) () trivial) λe he=>?_
 ·refine .go (D7.2 hk) (.ip (D5 k) (.get (tn hk) λz z1 _=>.ip (D5 k) (.get (tn hk) λw w1 _=>?_)));obtain rfl:z=w:=Option.some.inj (z1.symm.trans w1);rw[beq_self_eq_true];exact .ret ⟨(),by rw[Cb ha hk],trivial⟩
 ·cases e with
  |inl e=>exact he.elim
  |inr e=>exact .ret rfl
end
section
theorem aem{x:qh}(ok:EP 1048576 x)(hv:ED x=some (true,())){k:Nat}{s:qk}(hs:x.servers[k]?=some s):SV x.master s (k:Int)/\Fs 1048576 s:=by have hlt:=Du hs;have sv:=PL ok hv k hlt;have okx:=ok.1.2 _ (D6 hlt);rw[aq hlt]at hs;rw[Option.some.inj hs]at sv okx;exact⟨sv,okx⟩
theorem YU{m:jZ}(ok:Md 1048576 m){c:nG}(h:EF m=some (c,true,())):Gu maxLen c/\EH c=some (true,()):=by
 obtain⟨v,v1,_⟩:=masterLog m (Gp ok);cases v with
 |true=>obtain⟨c',b',q1,_,q3,_,q5,_⟩:=IX m m.activated ok v1;unfold EF at h;rw[q1]at h;simp only[ao,af,au,and_true]at h;obtain⟨rfl,rfl⟩:=h;exact⟨q3,(q5 rfl).1⟩
 |false=>unfold EF FR at h;rw[v1]at h;simp[br]at h
theorem adH(x:qh)(ok:EP 1048576 x)(to:Int):∃l,Ky x to=some (l,())/\Kq x to=some (l,())/\l.length<=3:=by
 obtain⟨n,n1,n2⟩:=adr x ok to;obtain⟨c,d,d1,d2,d3⟩:=NN x ok;obtain⟨p,p1,p2,_⟩:=adV x ok c.primary;obtain⟨M,m1,m2,_⟩:=Hy c d3;unfold Ky Kq;simp only[n1,n2,d1,d2,p1,p2,m1,m2,ao,EE,Gw];by_cases hn:n=0
 ·simp only[if_pos hn];exact⟨_,rfl,rfl,az _⟩
 ·simp only[if_neg hn];exact⟨[],rfl,rfl,bO _⟩
theorem ZS(x:qh)(ok:EP 1048576 x)(to:Int):Ev (λy=>y.2.1=0->G6 x to=some (0,())) (FP x to):=by unfold FP;rw[(FO x ok).1,ao];exact .bd λm hm=>.brn (λe=>.bd λ_ _=>.bd λ_ _=>.bd λ_ _=>.bd λ_ _=>.ret λ_=>hm.trans (congrArg some (Prod.ext (eq_of_beq e) rfl))) λhn=>.ret λh=>absurd h (ne_of_beq_false hn)
section
variable [dE]
theorem XT{x:Hd}{l:List Int}(h:kQ x=some l)(hl:l.length<=maxLen)(hb:∀m∈l,0<=m/\m<=255):Tt (λy=>EP 1048576 y.1) (HH x):=by unfold HH QF;refine .bind (Q:=λy=>EP 1048576 y.1) (.dn (adw h hl hb) λc1 _ h1 _=>.dn (XM h1) λc2 y h2 hy=>.ip rfl ?_) λy hy=>.ret hy;have hy1:EP 1048576 y.1:=hy.1;have last:∀ {c:qi},F0 c->Tt (λz:qh×Int×Unit=>EP 1048576 z.1) ((EJ [c] 7).bind λw=>iteP (w.1.length=[c].length) (some (y.1,IntKind.wrap .i64 (w.2.1-1),())) none):=λhc=>.dn (GC hc _) λc3 _ _ _=>.ip rfl (.ret hy1);obtain⟨c,d,d1,_,_⟩:=NN y.1 hy1;show Tt _ ((EF y.1.master).bind _);rw[d1,ao];refine .br (λhd=>.dn (IP h2 _) λc3 _ h3 _=>.ip rfl ?_) λ_=>last h2;have hd:d=true:=hd;subst hd;obtain⟨cok,cv⟩:=YU hy1.2.2.1 d1;have cp:=(Gq cok cv).2.2.1;have hpos:0<c.replicas.length:=List.length_pos_of_mem cp;rw[EE];refine .br (λ_=>last h3) λ_=>.dn (Kj h3 (n:=(c.replicas.length:Int)) (by omega)) λc4 k h4 hk=>.ip rfl (.ip hk (.get (by have h1:0<=k.1:=hk.1;have h2:k.1<(c.replicas.length:Int):=hk.2;show k.1.toNat<c.replicas.length;omega) λz _ _=>.ret hy1))
theorem WU(x:Hd)(l:List Int)(h:kQ x=some l)(hl:l.length<=maxLen)(hb:∀m∈l,0<=m/\m<=255):Nh x=some (true,()):=by
 refine Tt.tru ?_;unfold Nh;refine .bind (Q:=T1) (by unfold Z8;exact .ret trivial) λ_ _=>.br (λ_=>.ret rfl) λ_=>.bind (XT h hl hb) λa ha=>?_;obtain⟨y,n,s1,i1,oky⟩:=ab8 a.1 ha a.2.1;obtain⟨m,m1,m2⟩:=adr a.1 ha a.2.1;obtain⟨L,l1,l2,l3⟩:=adH a.1 ha a.2.1;simp only[i1,s1,m1,m2,l1,l2,aee y oky,aa8 L (by unfold maxLen;omega),ao,beq_self_eq_true,dg,Ce];rw[EE];refine .br (λh0=>?_) λ_=>.ret rfl;have h0:n=0:=eq_of_beq h0;obtain⟨c,p,t,e1,e2,_,e4,e5,e6⟩:=ab9 a.1 ha a.2.1 _ s1 h0;obtain⟨_,M,p',hv,hS,hmem,_⟩:=ads a.1 ha a.2.1 _ (ZS a.1 ha a.2.1 _ s1 h0) rfl;obtain⟨cok,cv⟩:=YU ha.2.2.1 e1;obtain⟨ca,_,cp,_⟩:=Gq cok cv;have hp:=Jc ca _ cp;obtain⟨sp,sp1,sp2,_⟩:=J2 y oky;rw[e4]at sp1;obtain rfl:=(Prod.mk.inj (Option.some.inj sp1)).1;rw[e1,ao,sp2,ao,beq_self_eq_true];have hla:=hS.act;rw[e1]at hla;simp only[af,au,and_true]at hla;subst hla;have e2':=hS.at';rw[e2]at e2';obtain rfl:=Option.some.inj e2';obtain⟨sv,okp⟩:=aem ha hv e2;have hpn:=hS.now;have pf:=Kf okp hpn;have hc:p.config≠⟨0,0,[],[]⟩:=aaZ (Gq (EK okp.1) pf.1).2.2.2.1;obtain⟨r,vs⟩:=ada okp sv.val hc;have hr:=vs.role;rw[EB hp.1]at hr;obtain⟨r',r1,_,_,r4⟩:=SH p.config c.primary (EK okp.1) pf.1;obtain rfl:r'=r:=(Prod.mk.inj (Option.some.inj (r1.symm.trans hr))).1;have hf:=vs.rep λh3=>r4 h3 pf.2;have hcm:=(VL p c.primary okp (by have:=sv.val;rw[EB hp.1]at this;exact this)).1;have hlt:=Du e2;have hltt:a.2.1.toNat<y.servers.length:=Du e5;have hto:0<=a.2.1:=(Jc ca _ hmem).1;have rng1:0<=c.primary/\c.primary<(a.1.servers.length:Int):=by omega
 have rng2:0<=a.2.1/\a.2.1<(y.servers.length:Int):=by omega
 have okl:=okp.2.1
 have hcl: (Pt p).length<=maxLen:=by
  unfold Pt;split
  ·rw[cR];unfold maxLen;omega
  ·exact bO _
 refine .br (λ_=>.ip rng1 ?_) nofun;simp only[e2,e5,ao,cE,D9];refine .ip (Eo (aP _)) (.ip (Eo (aP _)) (.ip (Eo (aP _)) (.ip (Eo (aP _)) ?_)));rw[show Fl _=_ from hcm,ao];refine .ip rng2 (.ip (Eo (aP _)) ?_);rw[abD (b:=t.log) hcl λi e hi=>?_]
 ·exact .br (λ_=>.ip rng2 (.ip rng1 (.ret (decide_eq_true (by rw[e6];exact cW _))))) nofun
 ·unfold Pt at hi;split at hi
  ·rw[hf,Int.sub_zero]at hi;have hlt:=Du hi;rw[cR]at hlt;rw[List.getElem?_take_of_lt (by omega)]at hi;rw[e6];exact hi
  ·simp at hi
end
end
end Go.Proofs.YtkghndikalnipaaGreat.En

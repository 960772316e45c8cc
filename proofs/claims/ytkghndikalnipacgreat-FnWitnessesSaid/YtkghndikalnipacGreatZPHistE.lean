/- Plain laws. -/
import Derived.Test.YtkghndikalnipacGreatZPT3
set_option linter.unusedSimpArgs false
set_option linter.unusedVariables false
namespace Go.Proofs.YtkghndikalnipacGreat.En
open Go
section
theorem KV(x:qg)(ok:Ew 1048576 x):Tt (λy=>y.1=true->VC x) (Ea x):=by obtain⟨v,v1,_⟩:=Fd x ok;exact⟨(v,()),v1,λe=>El ok (by rw[v1,show v=true from e])⟩
theorem SK(x:qg)(ok:Ew 1048576 x)(e:Int): ∃c b,Fm x.master e=some (c,b,())/\Gc maxLen c/\(VC x->c.replicas.length<=5/\c.witnesses.length<=5/\(∀z∈c.replicas,0<=z/\z<5)/\(∀z∈c.witnesses,0<=z/\z<5)/\(b=true->Eg c=some (true,())/\0<=c.primary/\c.primary<5)/\MY c.replicas):=by
 obtain⟨c,b,h1,_,h2⟩:=My x.master e ok.2.2.1;refine⟨c,b,h1,h2,λvc=> ?_⟩;obtain⟨c',b',g1,_,g2,_,g3,g4⟩:=Im x.master e ok.2.2.1 vc.ml;rw[h1] at g1;obtain⟨rfl,rfl⟩:c=c'/\b=b':=by simpa using g1
 cases b with
 |false=>rw[g4 rfl];exact⟨bM _,bM _,nofun,nofun,nofun,λk hk=>by simp at hk⟩
 |true=>obtain⟨a1,a2,a3,_⟩:=Fc g2 (g3 rfl).1;exact⟨a1.len,a2.len,Ka a1,Ka a2,λ_=>⟨(g3 rfl).1,Ka a1 _ a3⟩,a1⟩
theorem SF(x:qg)(ok:Ew 1048576 x): ∃c b,Ef x.master=some (c,b,())/\Gc maxLen c/\(VC x->c.replicas.length<=5/\c.witnesses.length<=5/\(∀z∈c.replicas,0<=z/\z<5)/\(∀z∈c.witnesses,0<=z/\z<5)/\(b=true->Eg c=some (true,())/\0<=c.primary/\c.primary<5)/\MY c.replicas):=by obtain⟨c,b,h1,h2⟩:=SK x ok x.master.activated;exact⟨c,b,by unfold Ef;rw[h1];rfl,h2⟩
theorem XE(s:qj)(e:Int)(h:ED 1048576 s):Tt (λy=>ED 1048576 y.1) (F2 s e):=by unfold F2;rw[(L5 s h).1,ao,EF,ao,Eb];exact .br (λ_=> .br (λ_=> .ret h) λ_=> .br (λ_=> .ret h) λ_=> .ret h) λ_=> .ret h
theorem aav(x:qg)(ok:Ew 1048576 x)(id e:Int):Tt (λy=>Kp x y.1) (EO x id e):=by
 obtain⟨c,b,c1,c2,c3⟩:=SF x ok;unfold EO;rw[(EG x ok).1,ao,c1,ao];refine .bind (KV x ok) λv hv=> ?_;rw[Eb];refine .br (λh=> ?_) λ_=> .ret (.self ok);have vc:=hv h;rw[Eb];refine .br (λ_=> ?_) λ_=> .ret (.self ok);rw[EF,ao,Eb];refine .br (λ_=> .bind (LM c c2) λm hm=> ?_) λ_=> .ret (.self ok);have hl:m.1.length<=maxLen:=by have:=hm.1;unfold maxLen;omega
 refine .bind (.count (B:=EX) (E:=λe=> ∃S:List qj,(S.length=5/\ ∀s∈S,ED 1048576 s)/\e=(((),(),()),(fz,fc x,()),S,x.sides,x.master.configs,x.places,())) m.1.length (λk (S:List qj)=>((id,e,(),(),(),(),(k:Int),()),(fx x,fz,fc x,()),m.1,S,x.sides,x.master.configs,x.places,())) (λ_ S=>S.length=5/\ ∀s∈S,ED 1048576 s) (λS hS=> .end (DH _) (.ret ⟨S,hS,rfl⟩)) (λk S hk hS=> .go (DE.2 hk) (.ip ⟨DD k,DE.2 hk⟩ (.get (tn hk) λz hz' hz=> .srv ok vc (hm.2 z hz) λs _ _ _=> .br (λ_=> .ip ⟨DD k,DE.2 hk⟩ (.get (tn hk) λz2 _ hz2=> .bind (RF ok vc id z2) λ_ _=> .br (λ_=> .ip ⟨DD k,DE.2 hk⟩ (.get (tn hk) λz3 _ hz3=> .ip ⟨DD k,DE.2 hk⟩ (.get (tn hk) λz4 _ hz4=> .srv ok vc (hm.2 z4 hz4) λt _ t2 _=> .bind (XE t e t2) λu hu=> .at hS.1 (hm.2 z3 hz3) λ_ _ _=> .ret ⟨S.set z3.toNat u.1,by rw[BG hl hk],Vo hS hu _⟩))) λ_=> .ret ⟨S,by rw[BG hl hk],hS⟩)) λ_=> .ret ⟨S,by rw[BG hl hk],hS⟩))) x.servers ⟨vc.len,ok.1.2⟩) ?_
 rintro _ ⟨S,hS,rfl⟩
 exact .ret ((Kp.self ok).srvs (by rw[hS.1,vc.len]) hS.2)
section
variable {x:qg} (ok:Ew 1048576 x) (vc:VC x) (id:Int)
include ok vc
theorem XI:Tt (λy=>y.1.length<=5/\ ∀z∈y.1,0<=z/\z<5) (Fn x id):=by
 obtain⟨c,d,c1,c2,c3⟩:=SF x ok;obtain⟨r5,_,inr,_⟩:=c3 vc;have rm:c.replicas.length<=maxLen:=by unfold maxLen;omega
 unfold Fn;rw[c1,ao];refine .bind (.count (B:=FG) (E:=λe=>e.2.2.1.length<=5/\ ∀z∈e.2.2.1,0<=z/\z<5) c.replicas.length (λk (b:List Int)=>((id,(),(),(),d,(k:Int),()),(fx x,(c.epoch,c.primary,(),(),()),()),b,c.replicas,c.witnesses,())) (λk b=>b.length<=k/\ ∀z∈b,0<=z/\z<5) (λb hb=> .end (DH _) (.ret ⟨aX hb.1 r5,hb.2⟩)) (λk b hk hb=> ?_) [] ⟨ay _,nofun⟩) λy hy=> .ret hy;have ex:b.length<=5/\ ∀z∈b,0<=z/\z<5:=⟨by omega,hb.2⟩
 have st:b.length<=k+1/\ ∀z∈b,0<=z/\z<5:=⟨by omega,hb.2⟩
 refine .go (DE.2 hk) (.br (λ_=> .bind (KV x ok) λ_ _=> .br (λ_=> ?_) λ_=> .ret ex) λ_=> .ret ex);rw[EF,ao];refine .br (λ_=> .ip ⟨DD k,DE.2 hk⟩ (.get (tn hk) λz _ hz=> .srv ok vc (inr z hz) λs _ _ _=> .br (λ_=> .br (λ_=> .ip ⟨DD k,DE.2 hk⟩ (.get (tn hk) λz2 _ hz2=> .bind (RF ok vc id z2) λ_ _=> .br (λ_=> .ip ⟨DD k,DE.2 hk⟩ (.get (tn hk) λz3 _ hz3=> .ip ?_ (.ret ⟨b++ [z3],by rw[BG rm hk],?_⟩))) λ_=> .ret ⟨b,by rw[BG rm hk],st⟩)) λ_=> .ret ⟨b,by rw[BG rm hk],st⟩) λ_=> .ret ⟨b,by rw[BG rm hk],st⟩)) λ_=> .ret ex
 ·show (b++ [z3]).length*8<=2 ^ 40;rw[bJ,cy];omega
 ·exact⟨by rw[bJ,cy];omega,λy hy=>(bC.1 hy).elim (hb.2 y) λh=>by rw[aL.1 h];exact inr z3 hz3⟩
theorem Z2:Tt (λy=>y.1= -1\/0<=y.1/\y.1<5) (FA x id):=by
 unfold FA;refine .bind (XI ok vc id) λl hl=> ?_;have lm:l.1.length<=maxLen:=by have:=hl.1;unfold maxLen;omega
 refine .bind (.count (B:=FU) (E:=λe=>e.1.1= -1\/0<=e.1.1/\e.1.1<5) l.1.length (λk (b:Int)=>(((),b,(),(k:Int),()),(fx x,()),l.1,())) (λ_ b=>b= -1\/0<=b/\b<5) (λb hb=> .end (DH _) (.ret hb)) (λk b hk hb=> ?_) (-1) (.inl rfl)) λy hy=> .ret hy;refine .go (DE.2 hk) (.br (λ_=> .ip ⟨DD k,DE.2 hk⟩ (.get (tn hk) λz _ hz=> .ret ⟨z,by rw[BG lm hk],.inr (hl.2 z hz)⟩)) λhn=> .ip ⟨DD k,DE.2 hk⟩ (.get (tn hk) λz _ hz=> .srv ok vc (hl.2 z hz) λs _ _ _=> .srv ok vc (a:=b) ?_ λt _ _ _=> .br (λ_=> .ip ⟨DD k,DE.2 hk⟩ (.get (tn hk) λz2 _ hz2=> .ret ⟨z2,by rw[BG lm hk],.inr (hl.2 z2 hz2)⟩)) λ_=> .ret ⟨b,by rw[BG lm hk],hb⟩));have hn: ¬b<0:=of_decide_eq_false hn;omega
omit ok vc in
theorem V6(f:Int)(l:List rj)(hl:l.length<=maxLen):Tt (λy=>y.1=true->0<=f/\l.length<=3) (Lj f l):=by obtain⟨b,b1,b2⟩:=Nw hl;unfold Lj;rw[b1,ao];refine .br (λ_=> .br (λh=> ?_) λ_=> .ret nofun) λ_=> .ret nofun;have h: (l.length:Int)<=3:=of_decide_eq_true h;rw[EF,ao];refine .br (λw=> ?_) λ_=> .ret nofun;have w:=Ec.1 w;exact .br (λ_=> .ret λ_=>⟨w.1,by omega⟩) λ_=> .ret λ_=>⟨w.1,by omega⟩
omit ok vc in
theorem Z9(a:List rj)(f:Int)(t:List rj)(ha:a.length<=1048576)(ht:t.length<=1048576):Tt (λy=>y.1.length<=19) (FZ a f t):=by
 obtain⟨b,b1,b2⟩:=Nw (Em ha);unfold FZ;rw[b1,ao,Eb];refine .br (λe=> ?_) λ_=> .ret (bM _);have h16:=b2 e;refine .bind (V6 f t (Em ht)) λg hg=> ?_;rw[Eb];refine .br (λe=> ?_) λ_=> .ret (bM _);obtain⟨f0,t3⟩:=hg e;refine .br (λ_=> .ret (bM _)) λhn=> ?_;have hn: ¬f>(a.length:Int):=of_decide_eq_false hn;obtain⟨n,n1,n2,n3,_⟩:=M1 ((a.drop f.toNat).take ((a.length:Int).toNat-f.toNat)) t (aX (by rw[cP,co];omega) (Em ha));refine .ip (by omega) ?_;rw[n1,ao,vM (n:=(a.length:Int)-f) (by omega) (by omega)];refine .br (λ_=> .ret (bM _)) λ_=> ?_;rw[Oh ha,ao]
 have hl: (a++((t.drop (n:Int).toNat).take ((t.length:Int).toNat-(n:Int).toNat))).length<=19:=by rw[bJ,cP,co];omega
 refine .ip (by omega) (.ip (aX (bq 56 hl) (by omega)) ?_);obtain⟨d,d1,_⟩:=Nw (l:=a++((t.drop (n:Int).toNat).take ((t.length:Int).toNat-(n:Int).toNat))) (by unfold maxLen;omega);rw[show EL _=_ from d1,ao,Eb];exact .br (λ_=> .ret hl) λ_=> .ret (bM _)
omit ok vc in
theorem Z1(s:qj)(id:Int)(h:ED 1048576 s)(hf:0<=s.first/\s.first<=16/\s.log.length<=16):Tt (λy=>y.1.length<=1048576) (G9 s id):=by obtain⟨n,n1,_⟩:=KU s.config id (Ee h.1);unfold G9;rw[n1,ao,Oh h.2.2,ao];have fA:Tt (λy:List rj×Unit=>y.1.length<=1048576) ((EE s).bind λy3=>br (decide ((y3.1.length:Int)>(s.learned.length:Int))) (some (y3.1,())) (some (s.learned,()))):=.bind (OE s h hf) λy hy=> .br (λ_=> .ret (by show y.1.length<=_;omega)) λ_=> .ret h.2.2;exact .br (λ_=>fA) λ_=> .br (λ_=>fA) λ_=> .ret h.2.2
theorem ZX{c:nE}{w:qj}(hw:ED 1048576 w)(j:Int)(d:Bool)(b:List rj×Bool)(hb:b.1.length<=19):Tt (λe=> ∃r:List rj×Bool,r.1.length<=19/\e=((id,(),(),r.2,(),d,j,()),(fx x,(c.epoch,c.primary,(),(),()),()),r.1,c.replicas,c.witnesses,())) (H1 ((id,(),(),b.2,(),d,j,(),0,()),(fx x,(c.epoch,c.primary,(),(),()),WI w,()),b.1,c.replicas,c.witnesses,())):=by
 refine .count (B:=Fw) (E:=λe=> ∃r:List rj×Bool,r.1.length<=19/\e=((id,(),(),r.2,(),d,j,()),(fx x,(c.epoch,c.primary,(),(),()),()),r.1,c.replicas,c.witnesses,())) 5 (λk (b:List rj×Bool)=>((id,(),(),b.2,(),d,j,(),(k:Int),()),(fx x,(c.epoch,c.primary,(),(),()),WI w,()),b.1,c.replicas,c.witnesses,())) (λ_ b=>b.1.length<=19) (λb hb=> .end (DH _) (.ret ⟨b,hb,rfl⟩)) (λk b hk hb=> ?_) b hb;have hkk:0<=(k:Int)/\(k:Int)<5:=⟨DD k,DE.2 hk⟩
 have sw:=BG (n:=5) (by decide) hk;refine .go hkk.2 (.srv ok vc hkk λs _ _ _=> ?_);dsimp only;rw[sw,Eb];refine .br (λ_=> .bind (RF ok vc id k) λy _=> ?_) λ_=> .ret ⟨b,rfl,hb⟩;rw[Eb];refine .br (λ_=> .srv ok vc hkk λt _ t2 t3=> .bind (Z1 t k t2 (TB t2 t3)) λy hy=> .bind (Z9 y.1 w.first w.log hy hw.2.1) λz hz=> .br (λ_=> ?_) λ_=> .ret ⟨b,rfl,hb⟩) λ_=> .ret ⟨b,rfl,hb⟩;rw[Eb];exact .br (λ_=> .br (λ_=> .ret ⟨(z.1,true),rfl,hz⟩) λ_=> .ret ⟨b,rfl,hb⟩) λ_=> .ret ⟨(z.1,true),rfl,hz⟩
theorem XT:Tt (λy=>y.1.length<=19) (EP x id):=by
 obtain⟨c,d,c1,c2,c3⟩:=SF x ok;obtain⟨_,r5,_,inw,_⟩:=c3 vc;have rm:c.witnesses.length<=maxLen:=by unfold maxLen;omega
 unfold EP;rw[c1,ao];refine .bind (.count (B:=Fk) (E:=λe=>e.2.2.1.length<=19) c.witnesses.length (λk (b:List rj×Bool)=>((id,(),(),b.2,(),d,(k:Int),()),(fx x,(c.epoch,c.primary,(),(),()),()),b.1,c.replicas,c.witnesses,())) (λ_ b=>b.1.length<=19) (λb hb=> .end (DH _) (.ret hb)) (λk b hk hb=> ?_) ([],false) (bM _)) λy hy=> .ret hy;refine .go (DE.2 hk) (.br (λ_=> .bind (KV x ok) λ_ _=> .br (λ_=> ?_) λ_=> .ret hb) λ_=> .ret hb);rw[EF,ao];refine .br (λ_=> .ip ⟨DD k,DE.2 hk⟩ (.get (tn hk) λz _ hz=> .srv ok vc (inw z hz) λs _ s2 _=> ?_)) λ_=> .ret hb;have sw:=BG rm hk;rw[Eb];refine .br (λ_=> ?_) λ_=> .ret ⟨b,by rw[sw],hb⟩;rw[Eb];refine .br (λ_=> .ip ⟨DD k,DE.2 hk⟩ (.get (tn hk) λz2 _ _=> .bind (RF ok vc id z2) λy _=> ?_)) λ_=> .ret ⟨b,by rw[sw],hb⟩;rw[Eb];refine .br (λ_=> .bind (ZX ok vc id (c:=c) s2 k d b hb) ?_) λ_=> .ret ⟨b,by rw[sw],hb⟩
 rintro _ ⟨r,hr,rfl⟩
 exact .ret ⟨r,by rw[<-sw],hr⟩
theorem Yu:Tt (λy=>y.1.length<=1048576) (Fl x id):=by unfold Fl;refine .bind (KV x ok) λv _=> ?_;rw[Eb];refine .br (λ_=> ?_) λ_=> .ret (bM _);rw[EF,ao,Eb];refine .br (λ_=> .br (λ_=> .ret (bM _)) λ_=> .bind (Z2 ok vc id) λn hn=> .br (λh=> ?_) λ_=> .bind (XT ok vc id) λy hy=> .ret (by show y.1.length<=_;omega)) λ_=> .ret (bM _);have h:n.1≥0:=of_decide_eq_true h;refine .srv ok vc (by omega) λs _ s2 _=> ?_;rw[Oh s2.2.1];exact .ret s2.2.1
end
theorem QB(l:List rj)(hl:l.length<=maxLen):Tt T1 (Fe l):=by unfold Fe;refine .bind (.count (B:=IA) (E:=λ_=>True) l.length (λk (_:Unit)=>((l,(k:Int),()),(),())) (λ_ _=>True) (λ_ _=> .end (DH _) (.ret trivial)) (λk _ hk _=> .go (DE.2 hk) (.ip (DD k) (.get (tn hk) λe _ _=> .bind (Q:=T1) (by unfold Ib;exact .ret trivial) λ_ _=> .br (λ_=> .ret trivial) λ_=> .ret ⟨(),by rw[BG hl hk],trivial⟩))) () trivial) λy _=> ?_;cases y<;>exact .ret trivial
theorem WQ(s:qj)(c:nE)(id:Int)(l:List rj)(hs:ED 1048576 s)(hc:Gc 1048576 c)(hl:l.length<=1048576):Tt (λy=>ED 1048576 y.1) (F9 s c id l):=by
 obtain⟨n,n1,_⟩:=KU c id (Ee hc);obtain⟨b,b1,_⟩:=Nw (Em hl);obtain⟨e,e1,_⟩:=GU l (Em hl);unfold F9;simp only[n1,b1,e1,(L5 s hs).1,(N4 c hc).1,Oh hl,EF,ao,Eb,UI l hl];have hk:cutAt l<=l.length:=Nat.sub_le _ _
 have hl2: ((l.drop (cutAt l)).take ((l.length:Int).toNat-cutAt l)).length<=1048576:=by rw[cP,co];omega
 refine .br (λ_=> .ret hs) λ_=> .br (λ_=> .br (λ_=> .br (λ_=> .br (λ_=> .ret hs) λ_=> .br (λ_=> .bind (QB l (Em hl)) λ_ _=> .br (λ_=> .ret hs) λ_=> ?_) λ_=> ?_) λ_=> .ret hs) λ_=> .ret hs) λ_=> .ret hs
 all_goals
  exact .br (λ_=> .ip (by omega) (.bind (Q:=λy=>y.1.length<=1048576) ⟨_,Oh hl2,hl2⟩ λy hy=> .ret ⟨hc,hy,bM _⟩)) λ_=> .ret ⟨hc,hl,bM _⟩
theorem UE(m:jY)(h:NZ 1048576 m)(e:Int):Tt (λy=>NZ 1048576 y.1/\y.1.configs.length=m.configs.length) (FM m e):=by obtain⟨b,b1,_⟩:=masterLog m (Ff h);unfold FM;rw[(Po m h).1,ao,b1,ao,Eb];refine .br (λ_=> ?_) λ_=> .ret ⟨h,rfl⟩;rw[Eb];exact .br (λ_=> .br (λ_=> .ret ⟨h,rfl⟩) λ_=> .ret ⟨h,rfl⟩) λ_=> .ret ⟨h,rfl⟩
theorem N3(x:qg)(ok:Ew 1048576 x):Tt (λy=>Kp x y.1) (GC x):=by
 obtain⟨c,b,c1,c2,c3⟩:=SK x ok (x.master.configs.length:Int);unfold GC GK;rw[(EG x ok).1,ao,c1,ao,ao];refine .bind (KV x ok) λv hv=> ?_;rw[Eb];refine .br (λh=> ?_) λ_=> .ret (.self ok);have vc:=hv h;rw[Eb];refine .br (λhb=> .br (λ_=> .ret (.self ok)) λ_=> .br (λ_=> .ret (.self ok)) λ_=> ?_) λ_=> .ret (.self ok);obtain⟨r5,w5,_,_,hp,_⟩:=c3 vc;have hp:=(hp hb).2;have hc:Gc 1048576 c:=⟨by omega,by omega⟩
 have s5:=JQ (Em ok.2.1) vc.sides;refine .srv ok vc hp λs _ _ _=> ?_;rw[Eb];refine .br (λ_=> .ip hp.1 (.get (by show c.primary.toNat<x.sides.length;omega) λsd _ _=> ?_)) λ_=> .ret (.self ok);rw[Eb];refine .br (λ_=> ?_) λ_=> .ret (.self ok);obtain⟨o,o1,_⟩:=ND x.lease x.now;rw[o1,ao,Eb];refine .br (λ_=> .bind (aav x ok c.primary c.epoch) λy hy=> .bind (Yu ok vc c.primary) λl hl=> ?_) λ_=> .ret (.self ok);rw[Eb];refine .br (λ_=> .bind (LM c c2) λm hm=> ?_) λ_=> .ret hy;have ml:m.1.length<=maxLen:=by have:=hm.1;unfold maxLen;omega
 have hyS:y.1.servers.length=5/\ ∀s∈y.1.servers,ED 1048576 s:=⟨hy.2.trans vc.len,hy.1.1.2⟩
 refine .bind (.count (B:=H3) (E:=Sum.elim (λe=> ∃n:Int,e=(((),(),n,(),(),(),(),()),(fx x,fc y.1,(fc y.1,(c.epoch,c.primary,(),(),()),())),l.1,m.1,y.1.servers,y.1.sides,y.1.master.configs,y.1.places,c.replicas,c.witnesses,())) λe=>e.2=((fx x,fz,fc y.1,(c.epoch,c.primary,(),(),()),()),l.1,m.1,y.1.servers,y.1.sides,y.1.master.configs,y.1.places,c.replicas,c.witnesses,())) m.1.length (λk (_:Unit)=>(((),(),(),(),(),(),(k:Int),()),(fx x,fz,fc y.1,(c.epoch,c.primary,(),(),()),()),l.1,m.1,y.1.servers,y.1.sides,y.1.master.configs,y.1.places,c.replicas,c.witnesses,())) (λ_ _=>True) (λ_ _=> .end (DH _) (.ret rfl)) (λk _ hk _=> ?_) () trivial) λe he=> ?_
 ·refine .go (DE.2 hk) (.ip ⟨DD k,DE.2 hk⟩ (.get (tn hk) λz _ hz=> .srv ok vc (hm.2 z hz) λs _ _ _=> ?_));rw[Eb];refine .br (λ_=> .ip ⟨DD k,DE.2 hk⟩ (.get (tn hk) λz2 _ hz2=> .ip (hm.2 z2 hz2).1 (.get (by have:=hm.2 z2 hz2;show z2.toNat<x.sides.length;omega) λw _ _=> ?_))) λ_=> .ret ⟨_,rfl⟩;rw[Eb];exact .br (λ_=> .ret ⟨(),by rw[BG ml hk],trivial⟩) λ_=> .ret ⟨_,rfl⟩
 cases e with
 |inl e=>obtain⟨n,rfl⟩:=he;exact .ret hy
 |inr e=>
  show Tt _ ((Kn (((),(),(),(),(),(),0,()),e.2)).bind _);rw[show e.2=_ from he];refine .bind (.count (B:=H4) (E:=Sum.elim (λe=> ∃n:Int,e=(((),(),n,(),(),(),(),()),(fx x,fc y.1,(fc y.1,(c.epoch,c.primary,(),(),()),())),l.1,m.1,y.1.servers,y.1.sides,y.1.master.configs,y.1.places,c.replicas,c.witnesses,())) λe=>e.2=((fx x,fz,fc y.1,(c.epoch,c.primary,(),(),()),()),l.1,m.1,y.1.servers,y.1.sides,y.1.master.configs,y.1.places,c.replicas,c.witnesses,())) m.1.length (λk (_:Unit)=>(((),(),(),(),(),(),(k:Int),()),(fx x,fz,fc y.1,(c.epoch,c.primary,(),(),()),()),l.1,m.1,y.1.servers,y.1.sides,y.1.master.configs,y.1.places,c.replicas,c.witnesses,())) (λ_ _=>True) (λ_ _=> .end (DH _) (.ret rfl)) (λk _ hk _=> .go (DE.2 hk) (.ip ⟨DD k,DE.2 hk⟩ (.get (tn hk) λz _ hz=> .srv ok vc (hm.2 z hz) λs _ _ _=> .br (λ_=> .bind (QB l.1 (Em hl)) λ_ _=> .br (λ_=> .ret ⟨_,rfl⟩) λ_=> .ret ⟨(),by rw[BG ml hk],trivial⟩) λ_=> .ret ⟨(),by rw[BG ml hk],trivial⟩))) () trivial) λe he=> ?_;cases e with
  |inl e=>obtain⟨n,rfl⟩:=he;exact .ret hy
  |inr e=>
   show Tt _ ((Mj (((),(),(),(),(),(),0,()),e.2)).bind _);rw[show e.2=_ from he];refine .bind (.count (B:=IL) (E:=λe=> ∃S:List qj,(S.length=5/\ ∀s∈S,ED 1048576 s)/\e=(((),(),(),(),()),(fx x,fz,fc y.1,(c.epoch,c.primary,(),(),()),()),S,y.1.sides,y.1.master.configs,y.1.places,c.replicas,c.witnesses,())) m.1.length (λk (S:List qj)=>(((),(),(),(),(),(),(k:Int),()),(fx x,fz,fc y.1,(c.epoch,c.primary,(),(),()),()),l.1,m.1,S,y.1.sides,y.1.master.configs,y.1.places,c.replicas,c.witnesses,())) (λ_ S=>S.length=5/\ ∀s∈S,ED 1048576 s) (λS hS=> .end (DH _) (.ret ⟨S,hS,rfl⟩)) (λk S hk hS=> ?_) y.1.servers hyS) ?_
   ·refine .go (DE.2 hk) (.ip ⟨DD k,DE.2 hk⟩ (.get (tn hk) λz _ hz=> .ip ⟨DD k,DE.2 hk⟩ (.get (tn hk) λz2 _ hz2=> .at hS.1 (hm.2 z2 hz2) λs e' hs=> .ip ⟨DD k,DE.2 hk⟩ (.get (tn hk) λz3 _ _=> ?_))));dsimp only;simp only[e',ao,cE,DK,aP];refine .ip (ay _) (.ip (ay _) (.ip (ay _) (.ip (ay _) (.bind (WQ s c z3 l.1 (hS.2 s hs) hc hl) λu hu=> .at hS.1 (hm.2 z hz) λ_ _ _=> .ret ⟨S.set z.toNat u.1,by rw[BG ml hk],Vo hS hu _⟩))))
   ·rintro _ ⟨S,hS,rfl⟩
    refine .bind (UE x.master ok.2.2.1 c.epoch) λw hw=> .ret ?_;exact⟨⟨⟨by show S.length<=_;rw[hS.1];decide,hS.2⟩,hy.1.2.1,hw.1,hy.1.2.2.2⟩,by show S.length=_;rw[hS.1,vc.len]⟩
end
section
theorem Ur(m:jY)(h:NZ 1048576 m)(c:nE)(hc:Gc 1048576 c):Tt (λy=>NZ 1048576 y.1/\y.1.configs.length<=m.configs.length+1) (GF m c):=by
 have self:NZ 1048576 m/\m.configs.length<=m.configs.length+1:=⟨h,cK _⟩
 obtain⟨b,b1,_⟩:=masterLog m (Ff h);obtain⟨d,d1,_⟩:=Gu c (Ee hc);unfold GF;rw[(Po m h).1,ao,b1,ao,Eb];refine .br (λe=> ?_) λ_=> .ret self;subst e;have hl:=Sz h b1;rw[d1,ao,Eb];refine .br (λ_=> ?_) λ_=> .ret self;rw[Eb];refine .br (λ_=> ?_) λ_=> .ret self;rw[(N4 c hc).1,ao];have h2: (m.configs++ [c]).length<=21:=by rw[bJ,cy];omega
 exact .ip (aX (bq 64 h2) (by omega)) (.ret ⟨⟨aX h2 (by omega),λd hd=>(bC.1 hd).elim (h.2 d) λe=>by rw[aL.1 e];exact hc⟩,by show (m.configs++ [c]).length<=_;rw[bJ];exact ay _⟩)
theorem Oa(x:qg)(ok:Ew 1048576 x)(c:nE)(hc:Gc 1048576 c):Tt (λy=>Kp x y.1) (FQ x c):=by unfold FQ;rw[(EG x ok).1,ao];refine .bind (KV x ok) λv _=> ?_;rw[Eb];refine .br (λ_=> .br (λ_=> .ret (.self ok)) λ_=> .bind (Ur x.master ok.2.2.1 c hc) λm hm=> ?_) λ_=> .ret (.self ok);rw[Eb];exact .br (λ_=> .ret ⟨⟨ok.1,ok.2.1,hm.1,ok.2.2.2⟩,rfl⟩) λ_=> .ret (.self ok)
theorem Zg(x:qg)(ok:Ew 1048576 x)(n:Int):Tt (λy=>Kp x y.1) (Iq x n):=by unfold Iq;rw[(EG x ok).1,ao];refine .bind (KV x ok) λv _=> ?_;rw[Eb];refine .br (λ_=> ?_) λ_=> .ret (.self ok);rw[EF,ao,Eb];exact .br (λ_=> .ret ⟨ok,rfl⟩) λ_=> .ret (.self ok)
theorem YD(x:qg)(ok:Ew 1048576 x)(id:Int):Tt (λy=>y.1=true->VC x/\0<=id/\id<5) (Ha x id):=by obtain⟨b,b1,_,b2⟩:=QH x id ok;exact⟨_,b1,λe=>⟨El ok (b2 e).1,(b2 e).2⟩⟩
theorem XO(x:qg)(ok:Ew 1048576 x)(id:Int):Tt (λy=>Kp x y.1) (GI x id):=by unfold GI;rw[(EG x ok).1,ao];refine .bind (YD x ok id) λv hv=> ?_;rw[Eb];refine .br (λe=> ?_) λ_=> .ret (.self ok);obtain⟨vc,hid⟩:=hv e;refine .srv ok vc hid λs _ _ _=> .br (λ_=> .ret (.self ok)) λ_=> .srv ok vc hid λt _ _ _=> ?_;rw[Eb];exact .br (λ_=> .at vc.len hid λu _ hu=> .ret ((Kp.self ok).set (s:=⟨u.up,u.intact,2,u.epoch,u.config,u.first,u.log,u.commit,u.learned⟩) (ok.1.2 u hu) _)) λ_=> .ret (.self ok)
theorem UM(x:qg)(ok:Ew 1048576 x)(id:Int):Tt (λy=>Kp x y.1) (FX x id):=by
 unfold FX;rw[(EG x ok).1,ao];refine .bind (YD x ok id) λv hv=> ?_;rw[Eb];refine .br (λe=> ?_) λ_=> .ret (.self ok);obtain⟨vc,hid⟩:=hv e;refine .srv ok vc hid λs _ _ _=> .br (λ_=> .ret (.self ok)) λ_=> .srv ok vc hid λt _ _ _=> ?_;rw[Eb];refine .br (λ_=> .srv ok vc hid λs _ s2 _=> .bind (Q:=T1) ?_ λ_ _=> .br (λ_=> .ret (.self ok)) λ_=> .bind (.count (B:=Gq) (E:=Sum.elim (λe=> ∃n:Int,e=((id,(),n,(),()),(fc x,fc x,()),x.servers,x.sides,x.master.configs,x.places,())) λe=>e=((id,(),(),(),()),(fz,fc x,()),x.servers,x.sides,x.master.configs,x.places,())) x.servers.length (λk (_:Unit)=>((id,(),(),(),(),(k:Int),()),(fx x,fz,fc x,WI s,()),x.servers,x.sides,x.master.configs,x.places,())) (λ_ _=>True) (λ_ _=> .end (DH _) (.ret rfl)) (λk _ hk _=> ?_) () trivial) λe he=> ?_) λ_=> .ret (.self ok)
 ·unfold HD;exact .bind (QB _ (Em s2.2.2)) λ_ _=> .ret trivial
 ·have sw:=BG (Em ok.1.1) hk;refine .go (DE.2 hk) ?_;rw[show Ic _=_ from Ih s.config (Ee s2.1),ao,Eb];refine .br (λ_=> .ret rfl) λ_=> .ip (DD k) (.get (tn hk) λt _ ht=> ?_);have ht:=ok.1.2 t ht;rw[show FY _ _=_ from (FV t.config s.config (Ee ht.1)).1,ao];refine .br (λ_=> .ip (DD k) (.get (tn hk) λu _ hu=> .bind (Q:=T1) ?_ λ_ _=> .br (λ_=> .ret ⟨_,rfl⟩) λ_=> .ret ⟨(),by rw[sw],trivial⟩)) λ_=> .ret ⟨(),by rw[sw],trivial⟩;unfold HD;exact .bind (QB _ (Em (ok.1.2 u hu).2.1)) λ_ _=> .ret trivial
 cases e with
 |inl e=>obtain⟨n,rfl⟩:=he;exact .ret (.self ok)
 |inr e=>obtain rfl:=he;exact .at vc.len hid λu _ hu=> .ret ((Kp.self ok).set (s:=⟨u.up,u.intact,1,u.epoch,u.config,u.first,u.log,u.commit,u.learned⟩) (ok.1.2 u hu) _)
theorem XF(x:qg)(ok:Ew 1048576 x):Tt T1 (HE x):=by
 obtain⟨c,b,c1,c2,c3⟩:=SF x ok;unfold HE;rw[c1,ao];refine .bind (KV x ok) λv hv=> ?_;rw[Eb];refine .br (λh=> ?_) λ_=> .ret trivial;have vc:=hv h;rw[Eb];refine .br (λhb=> ?_) λ_=> .ret trivial;obtain⟨_,_,_,_,hp,_⟩:=c3 vc;have hp:=(hp hb).2;refine .srv ok vc hp λs _ s2 _=> ?_;obtain⟨d,d1,_⟩:=L0 s c.primary s2;rw[d1,ao,Eb];refine .br (λ_=> .srv ok vc hp λt _ _ _=> ?_) λ_=> .ret trivial;rw[Eb];refine .br (λ_=> .bind (LM c c2) λm hm=> .bind (.count (B:=HL) (E:=λ_=>True) m.1.length (λk (_:Unit)=>(((),(),(),(k:Int),()),(fx x,(c.epoch,c.primary,(),(),()),()),m.1,c.replicas,c.witnesses,())) (λ_ _=>True) (λ_ _=> .end (DH _) (.ret trivial)) (λk _ hk _=> .go (DE.2 hk) (.ip ⟨DD k,DE.2 hk⟩ (.get (tn hk) λz _ hz=> .bind (WM ok vc hp (hm.2 z hz)) λy _=> ?_))) () trivial) λe _=> ?_) λ_=> .ret trivial
 ·rw[Eb];exact .br (λ_=> .ret ⟨(),by rw[BG (by have:=hm.1;unfold maxLen;omega) hk],trivial⟩) λ_=> .ret trivial
 ·cases e<;>exact .ret trivial
theorem Vz(x:qg)(ok:Ew 1048576 x):Tt T1 (Jk x):=by unfold Jk;exact .bind (XF x ok) λ_ _=> .ret trivial
section
variable {l:List uN} (hl:l.length<=maxLen) (hv:ES l=some (true,()))
include hl hv
theorem ZO(m:List Int)(hm:MY m):Tt (λy=>y.1.length<=5) (MA l m):=by have h5:=PI hl hv;have ml:=hm.len;unfold MA;refine .bind (.count (B:=L4) (E:=λe=>e.2.2.1.length<=5) m.length (λk (b:List Int)=>((l,m,(),(k:Int),()),(),b,())) (λk b=>b.length<=k/\SS b) (λb hb=> .end (DH _) (.ret (aX hb.1 ml))) (λk b hk hb=> ?_) [] ⟨ay _,List.Pairwise.nil⟩) λy hy=> .ret hy;refine .go (DE.2 hk) ?_;dsimp only;rw[hv,ao,(QA hm).1,ao];refine .br (λ_=> .br (λ_=> .ip (DD k) (.get (tn hk) λz _ hz=> .ip (Ka hm z hz).1 (.get (by have:=Ka hm z hz;omega) λp _ _=> ?_))) (λh=>by cases h)) (λh=>by cases h);obtain⟨r,r1,r2,_,r4,_⟩:=ZN b p.rack (by omega) hb.2;rw[r1,ao];exact .ret ⟨r,by rw[BG (by unfold maxLen;omega) hk],by omega,r2⟩
theorem aau(i:Int):Tt T1 (Mz l i):=by have h5:=PI hl hv;unfold Mz;rw[hv,ao,EF,ao];refine .br (λ_=> .br (λh=> ?_) λ_=> .ret trivial) λ_=> .ret trivial;have h:=Ec.1 h;exact .ip h.1 (.get (by omega) λ_ _ _=> .ip h.1 (.get (by omega) λ_ _ _=> .ret trivial))
theorem XX(r:List Int)(hr:r.length<=5){a b:Int}(ha:0<=a/\a<5)(hb:0<=b/\b<5):Tt T1 (Lx l r a b):=by
 have h5:=PI hl hv;have rm:r.length<=maxLen:=by unfold maxLen;omega
 unfold Lx;refine .ip ha.1 (.get (by omega) λp _ _=> ?_);rw[(Ey r p.rack rm).1,ao];refine .ip hb.1 (.get (by omega) λq _ _=> ?_);rw[(Ey r q.rack rm).1,ao,Eb];exact .br (λ_=> .ip ha.1 (.get (by omega) λ_ _ _=> .ip hb.1 (.get (by omega) λ_ _ _=> .ret trivial))) λ_=> .ret trivial
theorem XJ(m d:List Int)(hm:MY m)(hd:d.length<=maxLen):Tt (λy=>y.1= -1\/(0<=y.1/\y.1<5/\y.1∉m)) (Jl l m d):=by
 have ml:m.length<=maxLen:=by have:=hm.len;unfold maxLen;omega
 unfold Jl;refine .bind (ZO hl hv m hm) λr hr=> .bind (.count (B:=Kf) (E:=λe=>e.1.1= -1\/(0<=e.1.1/\e.1.1<5/\e.1.1∉m)) 5 (λk (b:Int)=>((l,m,d,b,(),(k:Int),()),(),r.1,())) (λ_ b=>b= -1\/(0<=b/\b<5/\b∉m)) (λb hb=> .end (DH _) (.ret hb)) (λk b hk hb=> ?_) (-1) (.inl rfl)) λy hy=> .ret hy;have hkk:0<=(k:Int)/\(k:Int)<5:=⟨DD k,DE.2 hk⟩
 refine .go hkk.2 ?_;dsimp only;rw[(QA hm).1,ao,BG (n:=5) (by decide) hk];refine .br (λ_=> .bind (aau hl hv k) λy _=> ?_) (λh=>by cases h);rw[Eb,(Ey m k ml).1,(Ey d k hd).1];refine .br (λ_=> .br (λ_=> .ret ⟨b,rfl,hb⟩) λhn=> .br (λ_=> .ret ⟨b,rfl,hb⟩) λ_=> ?_) λ_=> .ret ⟨b,rfl,hb⟩;have hn: (k:Int)∉m:=of_decide_eq_false hn;refine .br (λ_=> .ret ⟨(k:Int),rfl,.inr ⟨hkk.1,hkk.2,hn⟩⟩) λh0=> ?_;have h0: ¬b<0:=of_decide_eq_false h0;exact .bind (XX hl hv r.1 hr hkk (by omega)) λ_ _=> .br (λ_=> .ret ⟨(k:Int),rfl,.inr ⟨hkk.1,hkk.2,hn⟩⟩) λ_=> .ret ⟨b,rfl,hb⟩
omit hv in
theorem aan(m a:List Int)(hm:MY m)(ha:MY a)(want:Int):Tt (λy=>MY y.1) (IR l m a want):=by
 have am:a.length<=maxLen:=by have:=ha.len;unfold maxLen;omega
 obtain⟨v,v1,_⟩:=JU l hl;have nil:MY [] :=λk hk=>by simp at hk
 unfold IR;rw[QD m a hm am,Ux _ a Vr am,ao,ao,v1,ao,Eb,(QA hm).1,(QA ha).1];refine .br (λe=> .br (λh=>by cases h) λ_=> .br (λh=>by cases h) λ_=> ?_) λ_=> .ret nil;subst e;rw[EF,ao,Eb];refine .br (λ_=> ?_) λ_=> .ret nil;have dl:=(Vr.filter λx=> !decide (x∈a)).len;have dm: (([0,1,2,3,4]:List Int).filter λx=> !decide (x∈a)).length<=maxLen:=by unfold maxLen;omega
 generalize ([0,1,2,3,4]:List Int).filter (λx=> !decide (x∈a))=dead at dm;refine .bind (.loop (B:=I0) (E:=Sum.elim (λe=>MY e.2.2.1) λe=>MY e.2.2.1) (λs=> ∃out:List Int,s=((l,want,(),(),()),(),out,dead,())/\MY out) (λs=>(want-s.2.2.1.length).toNat) ?_ ⟨_,rfl,hm.filter _⟩) λy hy=> ?_
 ·rintro _ ⟨out,rfl,ho⟩
  have ol:=ho.len;refine .br (λc=> ?_) λ_=> .ret ho;have c: (out.length:Int)<want:=of_decide_eq_true c;refine .bind (XJ hl v1 out dead ho dm) λn hn=> .br (λ_=> .ret ho) λh=> ?_;have h: ¬n.1<0:=of_decide_eq_false h
  obtain⟨n0,n5,nm⟩:0<=n.1/\n.1<5/\n.1∉out:=by
   rcases hn with h'|h'
   ·omega
   ·exact h'
  obtain⟨r,r1,r2,r3,_,r5⟩:=ZN out n.1 (by omega) ho.pair;rw[show Ig _ _=_ from r1,ao];refine .ret ⟨⟨r,rfl,SH r2 λy hy=>((r3 y).1 hy).elim (λe=>by rw[e];exact⟨n0,n5⟩) (Ka ho y)⟩,?_⟩;show (want-(r.length:Int)).toNat< (want-(out.length:Int)).toNat;have:=r5 nm;omega
 ·cases y with
  |inl y=>exact .ret hy
  |inr y=>exact .ret hy
end
theorem VK(x:qg)(ok:Ew 1048576 x)(want wit:Int):Tt (λy=>Gc 1048576 y.1) (IH x want wit):=by
 have zero:Gc 1048576 ⟨0,0,[],[]⟩:=⟨bM _,bM _⟩
 obtain⟨v,v1,_⟩:=Fd x ok;unfold IH;rw[v1,ao,Eb];refine .br (λe=> ?_) λ_=> .ret zero;subst e;have vc:=El ok v1;rw[EF,ao,Eb];refine .br (λ_=> ?_) λ_=> .ret zero;rw[EF,ao,Eb];refine .br (λ_=> .br (λ_=> .ret zero) λ_=> ?_) λ_=> .ret zero;obtain⟨c,b,c1,c2,c3⟩:=SF x ok;obtain⟨r5,w5,inr,_,_,rasc⟩:=c3 vc;have rm:c.replicas.length<=maxLen:=by unfold maxLen;omega
 rw[ZZ x ok v1,ao,c1,ao];have up:=Vx (SG x) (n:=5) (by omega);generalize O0 (SG x) 5=u at up;have um:u.length<=maxLen:=by have:=up.len;unfold maxLen;omega
 refine .bind (.count (B:=Jw) (E:=λe=> ∃have':List Int,MY have'/\e=((want,wit,(),(),(),(),(),()),(fx x,(0,0,(),(),()),(c.epoch,c.primary,(),(),()),()),u,have',c.replicas,c.witnesses,())) c.replicas.length (λk (b:List Int)=>((want,wit,(),(),(),(),(),(k:Int),()),(fx x,(0,0,(),(),()),(c.epoch,c.primary,(),(),()),()),u,b,c.replicas,c.witnesses,())) (λk b=>b.Sublist (c.replicas.take k)) (λb hb=> .end (DH _) (.ret ⟨b,?_,rfl⟩)) (λk b hk hb=> ?_) [] (List.nil_sublist _)) ?_
 ·rw[DK] at hb;exact SH (rasc.pair.sublist hb) λy hy=>inr y (hb.subset hy)
 ·have sw:=BG rm hk;have st:b.Sublist (c.replicas.take (k+1)):=hb.trans (List.take_sublist_take_left (cK k));refine .go (DE.2 hk) (.ip ⟨DD k,DE.2 hk⟩ (.get (tn hk) λz _ hz=> ?_));rw[show EZ _ _=_ from (Ey u z um).1,ao];refine .br (λ_=> .ip ⟨DD k,DE.2 hk⟩ (.get (tn hk) λz2 _ hz2=> .srv ok vc (inr z2 hz2) λs _ _ _=> .br (λ_=> .ip ⟨DD k,DE.2 hk⟩ (.get (tn hk) λz3 e3 _=> ?_)) λ_=> .ret ⟨b,by rw[sw],st⟩)) λ_=> .ret ⟨b,by rw[sw],st⟩;have e3:c.replicas[k]? =some z3:=e3
  have h2: (b++ [z3]).Sublist (c.replicas.take (k+1)):=by rw[DM,e3];exact hb.append (List.Sublist.refl _)
  have h3:=h2.length_le;rw[cP] at h3;exact .ip (by show (b++ [z3]).length*8<=2 ^ 40;omega) (.ret ⟨b++ [z3],by rw[sw],h2⟩)
 ·rintro _ ⟨hv,ha,rfl⟩
  refine .bind (aan (Em ok.2.2.2) hv u ha up want) λp hp=> .br (λ_=> .ret zero) λh0=> ?_;have pl:=hp.len
  have p0:0<p.1.length:=by
   rcases bn p.1.length with h|h
   ·rw[h] at h0;cases h0
   ·exact h
  refine .ip ⟨cU _,DE.2 p0⟩ (.get p0 λq _ _=> ?_);rw[show EZ _ _=_ from (Ey p.1 c.primary (by unfold maxLen;omega)).1,ao];have fA: ∀w:List Int,w.length<=1-> ∀ (e p':Int) (d:Bool),Tt (λy:nE×Bool×Unit=>Gc 1048576 y.1) (some (⟨e,p',p.1,w⟩,d,())):=λw hw _ _ _=> .ret ⟨by show p.1.length<=_;omega,by show w.length<=_;omega⟩
  extract_lets j43
  have h43: ∀p',Tt (λy=>Gc 1048576 y.1) (j43 p'):=λp'=>by unfold j43;refine .br (λ_=> ?_) λ_=>fA [] (by decide) _ _ _;rw[show Gk _ _=_ from Ux _ u Vr um,ao];refine .bind (XJ (Em ok.2.2.2) vc.places p.1 _ hp ?_) λ_ _=> .br (λ_=>fA [_] (ay 1) _ _ _) λ_=>fA [] (by decide) _ _ _;have:=(Vr.filter λx=> !decide (x∈u)).len;exact aX this (by unfold maxLen;omega)
  refine .br (λ_=> ?_) λ_=>h43 _;rw[show Ic _=_ from Ih c c2,ao];exact .br (λ_=>h43 _) λ_=>h43 _
theorem Xz(x:qg)(ok:Ew 1048576 x)(id t:Int):Tt (λy=>Kp x y.1) (F1 x id t):=by obtain⟨n,n1,n2⟩:=RE x ok id;unfold F1;rw[(EG x ok).1,ao,n1,ao,Eb];refine .br (λe=> ?_) λ_=> .ret (.self ok);obtain⟨hv,h0,h5⟩:=n2 (eq_of_beq e);have vc:=El ok hv;have s5:=JQ (Em ok.2.1) vc.sides;refine .srv ok vc ⟨h0,h5⟩ λs _ s2 _=> ?_;obtain⟨b,b1,_⟩:=L0 s id s2;rw[b1,ao,Eb];refine .br (λ_=> .br (λ_=> .ret (.self ok)) λ_=> .ip h0 (.get (by omega) λ_ _ _=> ?_)) λ_=> .ret (.self ok);rw[Eb];refine .br (λ_=> ?_) λ_=> .ret (.self ok);rw[Eb];refine .br (λ_=> ?_) λ_=> .ret (.self ok);obtain⟨l,d,g1,_⟩:=UO x.lease s.config.epoch id x.now t;rw[g1,ao,Eb];exact .br (λ_=> .ret ⟨ok,rfl⟩) λ_=> .ret (.self ok)
theorem Ym(x:qg)(ok:Ew 1048576 x)(want term:Int):Tt (λy=>Kp x y.1) (Hs x want term):=by unfold Hs;rw[(EG x ok).1,ao];refine .bind (KV x ok) λv _=> ?_;rw[Eb];refine .br (λ_=> ?_) λ_=> .ret (.self ok);rw[EF,ao,Eb];refine .br (λ_=> .bind (Vz x ok) λ_ _=> .br (λ_=> .ret (.self ok)) λ_=> .bind (VK x ok want 0) λn hn=> ?_) λ_=> .ret (.self ok);rw[Eb];refine .br (λ_=> .bind (Oa x ok n.1 hn) λy hy=> ?_) λ_=> .ret (.self ok);rw[Eb];refine .br (λ_=> ?_) λ_=> .ret (.self ok);obtain⟨t,t1,_⟩:=Uy x.lease;rw[t1,ao];refine .bind (Zg y.1 hy.1 _) λz hz=> ?_;rw[Eb];refine .br (λ_=> .bind (N3 z.1 hz.1) λa ha=> ?_) λ_=> .ret (.self ok);rw[Eb];exact .br (λ_=> .bind (Xz a.1 ha.1 _ _) λr hr=> .ret (hy.trans (hz.trans (ha.trans hr)))) λ_=> .ret (hy.trans (hz.trans ha))
theorem aaD(x:qg)(ok:Ew 1048576 x)(to:Int):Tt (λy=>y.1=0->VC x) (Kz x to):=by obtain⟨c,b,c1,c2,c3⟩:=SF x ok;unfold Kz;rw[c1,ao];refine .bind (KV x ok) λv hv=> ?_;rw[Eb];refine .br (λh=> ?_) λ_=> .ret nofun;have vc:=hv h;have s5:=JQ (Em ok.2.1) vc.sides;rw[Eb];refine .br (λhb=> ?_) λ_=> .ret nofun;obtain⟨r5,_,_,_,hp,_⟩:=c3 vc;have hp:=(hp hb).2;rw[(Ey c.replicas to (by unfold maxLen;omega)).1,ao,Eb];refine .br (λ_=> .br (λ_=> .ret nofun) λ_=> ?_) λ_=> .ret nofun;rw[Eb];refine .br (λ_=> .br (λ_=> .ret nofun) λ_=> .br (λ_=> .ret nofun) λ_=> .bind (Vz x ok) λ_ _=> ?_) λ_=> .ret nofun;rw[Eb];refine .br (λ_=> .ip hp.1 (.get (by show c.primary.toNat<x.sides.length;omega) λ_ _ _=> ?_)) λ_=> .ret nofun;rw[Eb];refine .br (λ_=> .br (λ_=> ?_) λ_=> .ret λ_=>vc) λ_=> .ret nofun;rw[Eb];exact .br (λ_=> .ret λ_=>vc) λ_=> .ret nofun
theorem Yx(x:qg)(ok:Ew 1048576 x)(to:Int):Tt (λy=>Kp x y.1) (GH x to):=by
 obtain⟨c,b,c1,c2,c3⟩:=SF x ok;unfold GH;rw[(EG x ok).1,ao];refine .bind (aaD x ok to) λn hn=> ?_;rw[Eb];refine .br (λh=> ?_) λ_=> .ret (.self ok);obtain⟨r5,w5,_⟩:=c3 (hn (eq_of_beq h));rw[c1,ao];refine .bind (Vu x ok c.primary) λy hy=> ?_;have hy':Kp x ⟨y.1.now,y.1.servers,y.1.sides,y.1.master,y.1.masterUp,⟨0,0,0⟩,y.1.places⟩:=⟨hy.1,hy.2⟩
 exact .bind (Oa _ hy'.1 ⟨_,to,c.replicas,c.witnesses⟩ ⟨by show c.replicas.length<=_;omega,by show c.witnesses.length<=_;omega⟩) λz hz=> .bind (N3 z.1 hz.1) λw hw=> .ret (hy'.trans (hz.trans hw))
end
section
theorem Tt.byte{α:Type}{Q:α->Prop}{b:ByteArray}{i:Nat}{k:UInt8->Option α}(hi:i<b.size)(h: ∀x,Tt Q (k x)):Tt Q ((b[i]?).bind k):=by rw[getElem?_pos b i hi];exact h _
theorem Rn(b:Int): (Br ((([b]:List Int).drop 0).take ([b]:List Int).length)).size=1:=rfl
theorem HO(n:Int)(h:n.natAbs<=1000):Tt (λy=>y.1.size<=1001) (F8 n):=by
 unfold F8;refine .br (λ_=> .ret (by decide)) λ_=> .bind (.loop (B:=Kd) (E:=λe=>e.1.1.size<=1000) (λs=>s.1.2.1.size+s.1.1.natAbs<=1000) (λs=>s.1.1.natAbs) ?_ (by simpa using h)) λy hy=> .br (λ_=> .ip ?_ (.ret ?_)) λ_=> .ret (aX hy (by omega))
 ·rintro⟨⟨n,acc,neg,_⟩,_,_⟩ hs
  have hs:acc.size+n.natAbs<=1000:=hs;refine .br (λh0=> ?_) λ_=> .ret (by show acc.size<=1000;omega);have h0:n≠0:=λe=>by rw[e] at h0;cases h0
  have ha: (Int.tdiv n 10).natAbs=n.natAbs / 10:=Int.natAbs_tdiv n 10;have hw:IntKind.wrap .i64 (Int.tdiv n 10)=Int.tdiv n 10:=vM (by omega) (by omega);dsimp only;rw[hw];refine .br (λ_=> .ip ⟨Nat.one_pos,ay _⟩ (.ip (by rw[Rn];omega) (.ret ⟨?_,?_⟩))) λ_=> .ip ⟨Nat.one_pos,ay _⟩ (.ip (by rw[Rn];omega) (.ret ⟨?_,?_⟩))
  all_goals first
   | (show (_++acc).size+(Int.tdiv n 10).natAbs<=1000;rw[ByteArray.size_append,Rn];omega)
   | (show (Int.tdiv n 10).natAbs<n.natAbs;omega)
 ·show (⟨⟨[45]⟩⟩:ByteArray).size+y.1.1.size<=2 ^ 40;have : (⟨⟨[45]⟩⟩:ByteArray).size=1:=rfl;omega
 ·show ((⟨⟨[45]⟩⟩:ByteArray)++y.1.1).size<=1001;have : (⟨⟨[45]⟩⟩:ByteArray).size=1:=rfl;rw[ByteArray.size_append];omega
theorem ZJ{o:Op}(h:XU o=true): (0<=o.client/\o.client<=2)/\(1<=o.seq/\o.seq<=99)/\(0<=o.object/\o.object<=2)/\(0<=o.value/\o.value<=9)/\(o.kind≠1->0<=o.old/\o.old<=9):=by
 obtain⟨h1,h2,h4⟩:=Xr h;have h3:=VL (show EH o=some (true,()) by rw[Mv,h]);refine⟨Ec.1 h1,Ec.1 h2,h3,Ec.1 h4,λhk=> ?_⟩;have h0:EH o=some (true,()):=by rw[Mv,h]
 unfold EH at h0;simp only[EF,ao,h1,h2,h4,Ec.2 h3,df,BI,beq_eq_false_iff_ne.2 hk] at h0;cases hk2: (o.kind==2) with
 |false=>rw[hk2] at h0;cases h0
 |true=>rw[hk2] at h0;simp only[CG,af,au,and_true] at h0;exact Ec.1 h0
theorem V5(o:Op):Tt (λy=>y.1.size<=10000) (Ls o):=by
 unfold Ls;rw[Mv,ao,Eb];refine .br (λh=> ?_) λ_=> .ret (by decide);obtain⟨n1,n2,n3,n4,n5⟩:=ZJ h;have e1: (⟨⟨[46]⟩⟩:ByteArray).size=1:=rfl;have e2: (⟨⟨[32]⟩⟩:ByteArray).size=1:=rfl;have e3: (⟨⟨[119,114,105,116,101,32]⟩⟩:ByteArray).size=6:=rfl;have e4: (⟨⟨[115,119,97,112,32]⟩⟩:ByteArray).size=5:=rfl;refine .bind (HO _ (by omega)) λa ha=> .ip (by omega) (.bind (HO _ (by omega)) λb hb=> .ip (by rw[ByteArray.size_append];omega) (.ip (by simp only[ByteArray.size_append];omega) (.br (λ_=> .ip (by simp only[ByteArray.size_append];omega) (.bind (HO _ (by omega)) λc hc=> .ip (by simp only[ByteArray.size_append];omega) (.ip (by simp only[ByteArray.size_append];omega) (.bind (HO _ (by omega)) λd hd=> .ip (by simp only[ByteArray.size_append];omega) (.ret ?_))))) λhk=> ?_)))
 ·show ByteArray.size _<=_;simp only[ByteArray.size_append];omega
 ·have n5:=n5 λe=>by rw[e] at hk;cases hk
  refine .ip (by simp only[ByteArray.size_append];omega) (.bind (HO _ (by omega)) λc hc=> .ip (by simp only[ByteArray.size_append];omega) (.ip (by simp only[ByteArray.size_append];omega) (.bind (HO _ (by omega)) λd hd=> .ip (by simp only[ByteArray.size_append];omega) (.ip (by simp only[ByteArray.size_append];omega) (.bind (HO _ (by omega)) λe he=> .ip (by simp only[ByteArray.size_append];omega) (.ret ?_))))));show ByteArray.size _<=_;simp only[ByteArray.size_append];omega
theorem UN(l:List rj)(hl:l.length<=maxLen):Tt (λy=>y.1.size<=1000000) (Kx l):=by
 obtain⟨b,b1,b2⟩:=Nw hl;unfold Kx;rw[b1,ao,Eb];refine .br (λe=> ?_) λ_=> .ret (by decide);have h16:=b2 e;subst e;have hlog:=((IT l hl).1 b1).2;refine .br (λ_=> .ret (by decide)) λ_=> .bind (.count (B:=Ke) (E:=λe=>e.1.1.size<=1000000) l.length (λk (b:ByteArray)=>((l,b,(k:Int),()),(),())) (λk b=>b.size<=k*20000) (λb hb=> .end (DH _) (.ret (by show b.size<=_;omega))) (λk b hk hb=> ?_) ByteArray.empty (bM _)) λy hy=> .ret hy;have sw:=BG hl hk;have e1: (⟨⟨[58]⟩⟩:ByteArray).size=1:=rfl;have e2: (⟨⟨[59]⟩⟩:ByteArray).size=1:=rfl;have hb:b.size<=k*20000:=hb;have hk2:k*20000<=16*20000:=bq _ (by omega);refine .go (DE.2 hk) (.br (λ_=> .ip (by rw[e2];show b.size+1<=_;omega) (.ip (DD k) (.get (tn hk) λe he _=> .bind (HO _ ?_) λy hy=> ?_))) λ_=> .ip (DD k) (.get (tn hk) λe he _=> .bind (HO _ ?_) λy hy=> ?_))
 case refine_1|refine_3=>have:=hlog k hk;unfold Q7 at this;rw[show l[k]? =some e from he] at this;simp only[ak] at this;have:=Ec.1 this.1;omega
 all_goals
  dsimp only;rw[sw];refine .ip (by first |omega| (simp only[ByteArray.size_append];omega)) (.ip (by simp only[ByteArray.size_append];omega) (.ip (DD k) (.get (tn hk) λe2 _ _=> .bind (V5 e2.op) λz hz=> .ip (by simp only[ByteArray.size_append];omega) (.ret ⟨_,rfl,?_⟩))));simp only[ByteArray.size_append];omega
theorem VX(b:ByteArray)(hb:b.size<=1000000):Tt T1 (Lr b):=by unfold Lr;exact .bind (.count (B:=K3) (E:=λ_=>True) b.size (λk (n:Int)=>((b,n,(k:Int),()),(),())) (λ_ _=>True) (λ_ _=> .end (DH _) (.ret trivial)) (λk n hk _=> .go (DE.2 hk) (.ip (DD k) (.byte hk λx=> .ret ⟨_,by rw[BG (n:=b.size) (by unfold maxLen;omega) hk],trivial⟩))) 5 trivial) λ_ _=> .ret trivial
theorem WF(l:List rj)(hl:l.length<=maxLen):Tt (λy=>y.1.length<=l.length+1/\y.1.length<=17) (Jz l):=by
 obtain⟨b,b1,b2⟩:=Nw hl;unfold Jz;rw[b1,ao,Eb];refine .br (λe=> ?_) λ_=> .ret ⟨bM _,bM _⟩;have h16:=b2 e;refine .ip (by simp) (.bind (.count (B:=Jv) (E:=λe=>e.2.2.1.length<=l.length+1/\e.2.2.1.length<=17) l.length (λk (b:Int×List Int)=>((l,(),b.1,(k:Int),()),(),b.2,())) (λk b=>b.2.length=k+1) (λb hb=> .end (DH _) (.ret (by show b.2.length<=_/\b.2.length<=_;omega))) (λk b hk hb=> ?_) (11,[11]) rfl) λy hy=> .ret hy);have sw:=BG hl hk;refine .go (DE.2 hk) ?_;dsimp only;rw[sw];refine .ip ⟨DD k,by omega,Int.ofNat_le.2 hk⟩ (.bind (UN _ (aX (by rw[cP,co];omega) hl)) λy hy=> .bind (VX y.1 hy) λz _=> .ip ?_ (.ret ⟨(_,_),rfl,?_⟩))
 ·rw[bJ,cy,hb];omega
 ·rw[bJ,cy,hb]
theorem Vv(l:List rj)(k:Int)(hl:l.length<=maxLen):Tt (λy=>y.1≠ -1->0<=k/\k<=(l.length:Int)) (JY l k):=by unfold JY;refine .bind (WF l hl) λy hy=> ?_;rw[vM (n:=(y.1.length:Int)-1) (by omega) (by omega),EF,ao,Eb];refine .br (λh=> ?_) λ_=> .ret λh=>absurd rfl h;have h:=Ec.1 h;exact .ip (by omega) (.get (by omega) λ_ _ _=> .ret λ_=>by omega)
theorem ZS(x:qg)(ok:Ew 1048576 x)(a b:Int):Tt (λy=>y.1=true->VC x/\(0<=a/\a<5)/\(0<=b/\b<5)) (Jm x a b):=by
 unfold Jm;refine .bind (KV x ok) λv hv=> ?_;rw[Eb];refine .br (λh=> ?_) λ_=> .ret nofun;have vc:=hv h;have h5:=JQ (Em ok.2.1) vc.sides
 have side:Tt (λy:Bool×Unit=>y.1=true->(0<=a/\a<5)/\(0<=b/\b<5)) (EK x.sides a b):=by unfold EK;simp only[vc.sides,EF,ao,CG];refine .br (λha=> .br (λhb=> ?_) λ_=> .ret nofun) λ_=> .ret nofun;have ha:=Ec.1 ha;have hb:=Ec.1 hb;exact .ip ha.1 (.get (by omega) λ_ _ _=> .ip hb.1 (.get (by omega) λ_ _ _=> .ret λ_=>by omega))
 refine .bind side λy hy=> ?_;rw[Eb];refine .br (λh=> ?_) λ_=> .ret nofun;obtain⟨ha,hb⟩:=hy h;refine .br (λ_=> .ret nofun) λ_=> .srv ok vc ha λs _ s2 _=> ?_;obtain⟨n,n1,_⟩:=KU s.config a (Ee s2.1);obtain⟨m,m1,_⟩:=KU s.config b (Ee s2.1);rw[n1,ao,m1];have good: ∀d:Bool,Tt (λy:Bool×Unit=>y.1=true->VC x/\(0<=a/\a<5)/\(0<=b/\b<5)) (some (d,())):=λd=> .ret λ_=>⟨vc,ha,hb⟩
 exact .br (λ_=> .srv ok vc hb λ_ _ _ _=> .br (λ_=> .br (λ_=> .br (λ_=>good _) λ_=>good _) λ_=> .br (λ_=> .br (λ_=>good _) λ_=>good _) λ_=>good _) λ_=>good _) λ_=>good _
theorem aab(x:qg)(ok:Ew 1048576 x)(a b:Int):Tt (λy=>0<=y.1->VC x/\(0<=a/\a<5)/\(0<=b/\b<5)/\ ∃s l,x.servers[a.toNat]? =some s/\EE s=some (l,())/\l.length<=16/\y.1<=(l.length:Int)) (Hn x a b):=by
 unfold Hn;refine .bind (ZS x ok a b) λv hv=> ?_;rw[Eb];refine .br (λh=> ?_) λ_=> .ret λh=>absurd h (by decide);obtain⟨vc,ha,hb⟩:=hv h;refine .srv ok vc ha λs s1 s2 s3=> ?_;obtain⟨⟨l,_⟩,l1,l2⟩:=OE s s2 (TB s2 s3);have l2:l.length<=16:=l2;rw[l1,ao];refine .srv ok vc hb λt _ t2 _=> .srv ok vc hb λu _ u2 _=> .bind (Q:=T1) ?_ λd _=> .bind (Q:=λy=>y.1=true->(t.learned.length:Int)<=(l.length:Int)) ?_ λp hp=> ?_
 ·unfold I2;exact .bind (Vv _ _ (Em u2.2.2)) λ_ _=> .ret trivial
 ·unfold JC;refine .br (λhd=> .bind (Vv l _ (by unfold maxLen;omega)) λy hy=> .ret λe=> ?_) λ_=> .ret nofun;have hd:d.1≥0:=of_decide_eq_true hd;have e:=eq_of_beq e;exact (hy (by omega)).2
 ·have tl:=t2.2.2;rw[Eb];refine .br (λe=> .ret λ_=>⟨vc,ha,hb,s,l,s1,l1,l2,?_⟩) λ_=> .ret λ_=>⟨vc,ha,hb,s,l,s1,l1,l2,?_⟩
  ·have:=hp e;show IntKind.wrap .i64 ((l.length:Int)-(t.learned.length:Int))<=_;rw[vM (by omega) (by omega)];omega
  ·show IntKind.wrap .i64 ((l.length:Int)-0)<=_;rw[vM (by omega) (by omega)];omega
theorem Zo(x:qg)(ok:Ew 1048576 x)(a b n:Int):Tt (λy=>Kp x y.1) (Ho x a b n):=by
 unfold Ho;rw[(EG x ok).1,ao];refine .bind (aab x ok a b) λy hy=> .br (λ_=> .ret (.self ok)) λh=> ?_;have h: ¬y.1<0:=of_decide_eq_false h;obtain⟨vc,ha,hb,s,l,s1,l1,l2,le⟩:=hy (by omega);rw[EF,ao,Eb];refine .br (λw=> .ip ha.1 ?_) λ_=> .ret (.self ok);have w:=Ec.1 w;rw[s1,ao,l1,ao];dsimp only;have hm: (if n<y.1 then n else y.1)<=y.1/\0<=(if n<y.1 then n else y.1):=by split<;>omega
 generalize (if n<y.1 then n else y.1)=m at hm;rw[vM (n:=(l.length:Int)-y.1) (by omega) (by omega),vM (n:=(l.length:Int)-y.1+m) (by omega) (by omega)]
 have hl: ((l.drop (0+(0:Int).toNat)).take (((l.length:Int)-y.1+m).toNat-(0:Int).toNat)).length<=1048576:=by rw[cP,co];omega
 refine .ip (by omega) (.ip (by omega) ?_);rw[Oh hl,ao];exact .at vc.len hb λu _ hu=> .ret ((Kp.self ok).set (s:=⟨u.up,u.intact,u.version,u.epoch,u.config,u.first,u.log,u.commit,(l.drop (0+(0:Int).toNat)).take (((l.length:Int)-y.1+m).toNat-(0:Int).toNat)⟩) ⟨(ok.1.2 u hu).1,(ok.1.2 u hu).2.1,hl⟩ _)
theorem WW{x y:qg}{n:Int}{r:Option (qg×Int×Unit)}(h:r=some (y,n,())/\Ew 1048576 y/\y.servers.length=x.servers.length):Tt (λz=>Kp x z.1) r:=⟨_,h.1,h.2⟩
theorem aax(x:qg)(ok:Ew 1048576 x)(e:wN):Tt (λy=>Kp x y.1) (J2 x e):=by obtain⟨_,_,c1⟩:=Zr x ok e.server;obtain⟨_,_,c2⟩:=XB x ok e.server;obtain⟨_,_,c3⟩:=aad x ok e.server;obtain⟨_,_,c4⟩:=aal x ok e.server e.n;obtain⟨_,_,c5⟩:=Xq x ok e.n;unfold J2;refine .br (λ_=> .bind (Xz x ok _ _) λy hy=> .ret hy) λ_=> .br (λ_=> .bind (VK x ok _ _) λn hn=> ?_) λ_=> .br (λ_=> .bind (N3 x ok) λy hy=> .ret hy) λ_=> .br (λ_=> .bind (WW c1) λy hy=> .ret hy) λ_=> .br (λ_=> .bind (WW c2) λy hy=> .ret hy) λ_=> .br (λ_=> .bind (WW c3) λy hy=> .ret hy) λ_=> .br (λ_=> .bind (WW c4) λy hy=> .ret hy) λ_=> .br (λ_=> .bind (WW c5) λy hy=> .ret hy) λ_=> .br (λ_=> .bind (Zg x ok _) λy hy=> .ret hy) λ_=> .br (λ_=> .bind (Zo x ok _ _ _) λy hy=> .br (λ_=> .ret hy) λ_=> .ret hy) λ_=> .br (λ_=> .bind (XO x ok _) λy hy=> .ret hy) λ_=> .br (λ_=> .bind (UM x ok _) λy hy=> .ret hy) λ_=> .br (λ_=> .bind (Yx x ok _) λy hy=> .ret hy) λ_=> .bind (Ym x ok _ _) λy hy=> .ret hy;rw[Eb];refine .br (λ_=> .bind (Oa x ok _ hn) λy hy=> .ret hy) λ_=> ?_;rw[(EG x ok).1];exact .ret (.self ok)
theorem aaA(k:Int):Tt T1 (MC k):=by
 unfold MC
 repeat first |exact .ret trivial|refine .br (λ_=> ?_) λ_=> ?_
theorem XP(e:wN):Tt T1 (Ip e):=by
 unfold Ip;simp only[EF,ao,Mv];refine .br (λ_=> .ret trivial) λ_=> .br (λ_=> .ret trivial) λ_=> .br (λ_=> .ret trivial) λ_=> .br (λ_=> .ret trivial) λ_=> .bind (aaA _) λ_ _=> ?_
 repeat first |exact .ret trivial|refine .br (λ_=> ?_) λ_=> ?_
theorem SE(x:qg)(ok:Ew 1048576 x)(e:wN):Tt (λy=>Kp x y.1) (HT x e):=by unfold HT;rw[(EG x ok).1];refine .bind (KV x ok) λ_ _=> .br (λ_=> .ret (Kp.self ok)) λ_=> .bind (XP e) λ_ _=> .br (λ_=> .ret (Kp.self ok)) λ_=> .br (λ_=> .bind (XZ x ok _ _) λy hy=> .ret hy) λ_=> .br (λ_=> ?_) λ_=> .bind (aax x ok e) λy hy=> .ret hy;exact .bind (Q:=λy=>Kp x y.1) ⟨_,rfl,Kp.self ok⟩ λy hy=> .bind (U7 x ok _ _) λ_ _=> .ret hy
theorem Vl(x:qg)(ok:Ew 1048576 x)(l:List wN)(hl:l.length<=1048576):Tt (λy=>Kp x y.1/\y.2.1.length<=l.length) (HK x l):=by
 have lm:=Em hl;unfold HK;rw[(EG x ok).1,ao];refine .bind (.count (B:=IM) (E:=λe=> ∃ (c:qg) (r:List wR),Kp x c/\r.length<=l.length/\e=(((),(),(),()),(fz,fc c,()),r,c.servers,c.sides,c.master.configs,c.places,())) l.length (λk (b:qg×List wR)=>((l,(),(),(),(k:Int),()),(fz,fc b.1,()),b.2,b.1.servers,b.1.sides,b.1.master.configs,b.1.places,())) (λk b=>Kp x b.1/\b.2.length<=k) (λb hb=> .end (DH _) (.ret ⟨b.1,b.2,hb.1,hb.2,rfl⟩)) (λk b hk hb=> .go (DE.2 hk) (.br (λ_=> .ip (DD k) (.get (tn hk) λe _ _=> .bind (SE b.1 hb.1.1 e) λy hy=> .ip ?_ (.ret ⟨(y.1,b.2++ [y.2.1]),by rw[BG lm hk],hb.1.trans hy,?_⟩))) λ_=> .ret ⟨b.1,b.2,hb.1,by omega,rfl⟩)) (x,[]) ⟨.self ok,ay _⟩) ?_
 ·show (b.2++ [y.2.1]).length*32<=2 ^ 40;rw[bJ,cy];omega
 ·rw[bJ,cy];omega
 ·rintro _ ⟨c,r,hc,hr,rfl⟩
  exact .ret ⟨hc,hr⟩
end
section
section
variable [dE]
theorem Tt.dn{α β:Type}{Q:α->Prop}{Q':β->Prop}{r:Option (List qh×α)}{k:List qh×α->Option β}(h:Dn Q r)(hk: ∀c a,Ik c->Q a->Tt Q' (k ([c],a))):Tt Q' (r.bind k):=by obtain⟨c,a,rfl,h1,h2⟩:=h;exact hk c a h1 h2
theorem Z4{α:Type}{Q:α->Prop}{r:Option (List qh×α)}(h:Tt (λy=> ∃c,y.1= [c] /\Ik c/\Q y.2) r):Dn Q r:=by obtain⟨⟨_,a⟩,rfl,c,rfl,h1,h2⟩:=h;exact⟨c,a,rfl,h1,h2⟩
omit [dE] in
theorem Xt{l:List uN}(h5:l.length=5)(h: ∀p∈l,(0<=p.rack/\p.rack<=9)/\(0<=p.capacity/\p.capacity<=9)/\0<=p.load/\p.load<=99):ES l=some (true,()):=by
 have lm:l.length<=maxLen:=by unfold maxLen;omega
 have fA:Tt (λy:Bool×Unit=>y.1=true) (ES l):=by
  unfold ES;refine .bind (.count (B:=Hl) (E:=Sum.elim (λ_=>False) λe=>e.1.1=l) l.length (λk (_:Unit)=>((l,(k:Int),()),(),())) (λ_ _=>True) (λ_ _=> .end (DH _) (.ret rfl)) (λk _ hk _=> .go (DE.2 hk) (.ip (DD k) (.get (tn hk) λp _ hp=> ?_))) () trivial) λy hy=> ?_
  ·obtain⟨h1,_⟩:=h p hp;rw[EF,Ec.2 h1,ao];refine .br (λh=>by cases h) λ_=> .ip (DD k) (.get (tn hk) λq _ hq=> ?_);obtain⟨_,h2,_⟩:=h q hq;rw[EF,Ec.2 h2,ao];refine .br (λh=>by cases h) λ_=> .ip (DD k) (.get (tn hk) λr _ hr=> ?_);obtain⟨_,_,h3⟩:=h r hr;rw[EF,Ec.2 h3,ao];exact .br (λh=>by cases h) λ_=> .ret ⟨(),by rw[BG lm hk],trivial⟩
  ·cases y with
   |inl y=>exact hy.elim
   |inr y=>refine .ret ?_;show ((y.1.1.length:Int)==5)=true;rw[show y.1.1=l from hy,h5];rfl
 obtain⟨⟨b,_⟩,e,rfl⟩:=fA;exact e
theorem Yi{c:qh}(h:Ik c):Dn (λy:List uN×Unit=>y.1.length=5/\ES y.1=some (true,())) (Ly [c]):=by
 refine Z4 ?_;unfold Ly;refine .bind (.count (B:=K5) (E:=λe=> ∃c,e.2.2.1= [c] /\Ik c/\e.2.2.2.1.length=5/\ES e.2.2.2.1=some (true,())) 5 (λk (b:qh×List uN)=>(((),(),(k:Int),()),(),[b.1],b.2,())) (λk b=>Ik b.1/\b.2.length=k/\ ∀p∈b.2,(0<=p.rack/\p.rack<=9)/\(0<=p.capacity/\p.capacity<=9)/\0<=p.load/\p.load<=99) (λb hb=> .end (DH _) (.ret ⟨b.1,rfl,hb.1,hb.2.1,Xt hb.2.1 hb.2.2⟩)) (λk b hk hb=> ?_) (c,[]) ⟨h,rfl,nofun⟩) λy hy=> .ret hy;obtain⟨h1,h2,h3⟩:=hb;refine .go (show (k:Int)<5 by omega) (.dn (Ob h1 (n:=4) (by omega)) λc1 x g1 hx=> .ip rfl (.dn (Ob g1 (n:=4) (by omega)) λc2 y g2 hy=> .ip rfl (.dn (Ob g2 (n:=4) (by omega)) λc3 z g3 hz=> .ip rfl (.ip ?_ (.ret ⟨(c3,b.2++ [⟨x.1,1+y.1,z.1⟩]),?_,g3,by rw[bJ,cy,h2],λp hp=> ?_⟩)))))
 ·rw[bJ,cy,show List.length _=k from h2];omega
 ·dsimp only;rw[BG (n:=5) (by decide) hk,vM (n:=1+y.1) (by omega) (by omega)]
 ·rcases bC.1 hp with hp|hp
  ·exact h3 p hp
  ·rw[aL.1 hp];show (0<=x.1/\x.1<=9)/\(0<=1+y.1/\1+y.1<=9)/\0<=z.1/\z.1<=99;omega
omit [dE] in
theorem Yh(v:Int):Tt (λy=>ED 1048576 y.1) (KA v):=by
 unfold KA;rw[EF,ao];have ok: ∀v:Int,ED 1048576 ⟨true,true,v,0,⟨0,0,[],[]⟩,0,[],0,[]⟩:=λ_=>⟨⟨bM _,bM _⟩,bM _,bM _⟩
 exact .br (λ_=> .ret (ok _)) λ_=> .ret (ok _)
omit [dE] in
theorem ZH(l:List uN)(hl:l.length<=1048576):Tt (λy=>Ew 1048576 y.1/\(ES l=some (true,())->y.1.servers.length=5)) (HS l):=by
 obtain⟨v,v1,_⟩:=JU l (Em hl);unfold HS;rw[v1,ao,Eb];refine .br (λe=> .ip (by decide) (.ip ?_ (.bind (.count (B:=Il) (E:=λe=> ∃S:List qj,S.length=5/\(∀s∈S,ED 1048576 s)/\e=(((),(),()),(fz,(0,(),(),(),0,3,0,0,0,(),()),()),S,List.replicate (5:Int).toNat (0:Int),[] ++l,())) 5 (λk (S:List qj)=>(((),(),(k:Int),()),(fz,(0,(),(),(),0,3,0,0,0,(),()),()),S,List.replicate (5:Int).toNat (0:Int),[] ++l,())) (λk S=>S.length=k/\ ∀s∈S,ED 1048576 s) (λS hS=> .end (DH _) (.ret ⟨S,hS.1,hS.2,rfl⟩)) (λk S hk hS=> .go (show (k:Int)<5 by omega) (.bind (Yh 1) λs hs=> .ip ?_ (.ret ⟨S++ [s.1],by rw[BG (n:=5) (by decide) hk],by rw[bJ,cy,hS.1],λt ht=> ?_⟩))) [] ⟨rfl,nofun⟩) ?_))) λ_=> .ret ⟨⟨⟨bM _,nofun⟩,bM _,⟨bM _,nofun⟩,bM _⟩,λe=>by simp_all⟩
 ·rw[bF];omega
 ·rw[bJ,cy,show List.length _=k from hS.1];omega
 ·exact (bC.1 ht).elim (hS.2 t) λe=>by rw[aL.1 e];exact hs
 ·rintro _ ⟨S,h5,hS,rfl⟩
  exact .ret ⟨⟨⟨by show S.length<=_;omega,hS⟩,by show (List.replicate (5:Int).toNat (0:Int)).length<=_;decide,⟨bM _,nofun⟩,hl⟩,λ_=>h5⟩
omit [dE] in
omit [dE] in
omit [dE] in
omit [dE] in
omit [dE] in
end
end
section
theorem Tt.tru{r:Option (Bool×Unit)}(h:Tt (λy=>y.1=true) r):r=some (true,()):=by obtain⟨⟨b,_⟩,e,rfl⟩:=h;exact e
theorem Tt.is{α:Type}{Q:α->Prop}{r:Option α}{a:α}(h:Tt Q r)(e:r=some a):Q a:=by obtain⟨b,h1,h2⟩:=h;rw[e] at h1;cases h1;exact h2
end
section
abbrev upS(s:qj)(b:Bool):qj:=⟨b,s.intact,s.version,s.epoch,s.config,s.first,s.log,s.commit,s.learned⟩
end
section
theorem WC(x:qg)(ok:Ew 1048576 x)(hv:Ea x=some (true,())){id:Int}{S:List Int}(hS:Fn x id=some (S,()))(h5:S.length<=5)(hr: ∀z∈S,0<=z/\z<5):Tt (λy=>(S= [] ->y.1= -1)/\(S≠ [] ->y.1∈S)) (FA x id):=by
 have vc:=El ok hv;have lm:S.length<=maxLen:=by unfold maxLen;omega
 unfold FA;rw[hS,ao];refine .bind (.count (B:=FU) (E:=λe=>(S= [] ->e.1.1= -1)/\(S≠ [] ->e.1.1∈S)) S.length (λk (b:Int)=>(((),b,(),(k:Int),()),(fx x,()),(S,()))) (λk b=>(k=0/\b= -1)\/(0<k/\b∈S)) (λb hb=> .end (DH _) (.ret ⟨λh=> ?_,λh=> ?_⟩)) (λk b hk hb=> ?_) (-1) (.inl ⟨rfl,rfl⟩)) λe h=> .ret h
 ·rcases hb with hb|hb
  ·exact hb.2
  ·rw[h] at hb;exact absurd hb.1 (dA _)
 ·rcases hb with hb|hb
  ·exact absurd (ba hb.1) h
  ·exact hb.2
 ·have c1: (k:Int)< (S.length:Int):=by omega
  have c2: (0:Int)<=(k:Int)/\(k:Int)< (S.length:Int):=by omega
  have hm:=DF hk;have hz:=hr _ hm;have hg:S[k]? =some S[k] :=aq hk;generalize S[k] =z at hz hg hm;obtain⟨s,s1,s2,_⟩:=HI ok vc hz;simp only[FU,fx,CY,BX,if_pos c1,if_pos c2,DC,hg,ao,if_pos hz.1,s1,BG lm hk];have new: ∃b',(((),z,(),((k+1:Nat):Int),()),(fx x,()),S,())=(((),b',(),((k+1:Nat):Int),()),(fx x,()),S,())/\((k+1=0/\b'= -1)\/(0<k+1/\b'∈S)):=⟨z,rfl,.inr ⟨Nat.succ_pos k,hm⟩⟩
  rcases hb with ⟨_,rfl⟩| ⟨_,hb⟩
  ·exact .ret new
  ·have hb2:=hr _ hb;obtain⟨t,t1,_⟩:=HI ok vc hb2;simp only[if_neg (show ¬b<0 by omega),if_pos hb2.1,t1,ao];split
   ·exact .ret new
   ·exact .ret ⟨b,rfl,.inr ⟨Nat.succ_pos k,hb⟩⟩
theorem Q6(x:qg)(ok:Ew 1048576 x): ∃c d,Ef x.master=some (c,d,())/\EY x.master=some (c,d,())/\Gc maxLen c:=by obtain⟨c,d,d1,d2,d3⟩:=My x.master x.master.activated ok.2.2.1;unfold Ef EY;rw[d1,d2];exact⟨c,d,rfl,rfl,d3⟩
theorem aaF(x:qg)(ok:Ew 1048576 x)(id:Int)(h24:Ha x id=some (false,()))(hh:EU x id=some (false,())):
  Fn x id=some ([],())/\HN x id=some ([],())/\EP x id=some ([],false,())/\Gm x id=some ([],false,())/\Fl x id=some ([],false,())/\Kt x id=some ([],false,())/\FA x id=some (-1,())/\IG x id=some (-1,()):=by
 obtain⟨v,v1,v2⟩:=Fd x ok;obtain⟨c,d,d1,d2,_⟩:=Q6 x ok
 have hw:v=false\/Gp id 0 4=false:=by
  unfold Ha at h24;simp only[v1,EF,ao] at h24;cases v with
  |false=>exact .inl rfl
  |true=>simp only[CG,af,au,and_true] at h24;exact .inr h24
 have a1:Fn x id=some ([],()):=by
  unfold Fn;rw[d1,ao]
  rw[show JK ((id,(),(),(),d,0,()),(fx x,(c.epoch,c.primary,(),(),()),()),([],c.replicas,c.witnesses,()))=some (((),()),(),([],())) from lK (by
   simp only[FG,fx,CY,show (⟨x.now,x.servers,x.sides,(⟨x.master.configs,x.master.activated⟩:jY),x.masterUp,(⟨x.lease.epoch,x.lease.holder,x.lease.ends⟩:uK),x.places⟩:qg)=x from rfl,v1,EF,ao];split
   ·cases d with
    |false=>rfl
    |true=>
     rcases hw with rfl|hw
     ·rfl
     ·rw[hw];cases v<;>rfl
   ·rfl)]
  rfl
 have a3:EP x id=some ([],false,()):=by
  unfold EP;rw[d1,ao]
  rw[show JL ((id,(),(),false,(),d,0,()),(fx x,(c.epoch,c.primary,(),(),()),()),([],c.replicas,c.witnesses,()))=some (((),false,()),(),([],())) from lK (by
   simp only[Fk,fx,CY,show (⟨x.now,x.servers,x.sides,(⟨x.master.configs,x.master.activated⟩:jY),x.masterUp,(⟨x.lease.epoch,x.lease.holder,x.lease.ends⟩:uK),x.places⟩:qg)=x from rfl,v1,EF,ao];split
   ·cases d with
    |false=>rfl
    |true=>
     rcases hw with rfl|hw
     ·rfl
     ·rw[hw];cases v<;>rfl
   ·rfl)]
  rfl
 have a2:HN x id=some ([],()):=by unfold HN;rw[d2,ao,hh,ao];cases d<;>rfl
 refine⟨a1,a2,a3,?_,?_,?_,?_,?_⟩
 ·unfold Gm;rw[d2,ao,hh,ao];cases d<;>rfl
 ·unfold Fl;rw[v1,EF,ao,ao];rcases hw with rfl|hw
  ·rfl
  ·rw[hw];cases v<;>rfl
 ·unfold Kt;rw[hh];rfl
 ·unfold FA;rw[a1,ao,show LF (((),-1,(),0,()),(fx x,()),([],()))=some ((-1,()),(),()) from lK rfl];rfl
 ·unfold IG;rw[a2,ao,show LD (((),-1,(),(([]:List Int).length:Int),0,()),(fx x,()),([],()))=some ((-1,()),(),()) from lK rfl];rfl
theorem RG(x:qg)(ok:Ew 1048576 x)(id:Int): ∃S n l b w f,Fn x id=some (S,())/\HN x id=some (S,())/\FA x id=some (n,())/\IG x id=some (n,())/\Fl x id=some (l,b,())/\Kt x id=some (l,b,())/\EP x id=some (w,f,())/\Gm x id=some (w,f,())/\
  S.length<=5/\l.length<=1048576/\w.length<=1048576/\(S≠ [] ->b=true/\n∈S)/\(b=false->S= [] /\f=false):=by
 obtain⟨g,g1,g2,g3⟩:=QH x id ok;cases g with
 |false=>obtain⟨a1,a2,a3,a4,a5,a6,a7,a8⟩:=aaF x ok id g1 g2;exact⟨[],-1,[],false,[],false,a1,a2,a7,a8,a5,a6,a3,a4,bM _,bM _,bM _,λh=>absurd rfl h,λ_=>⟨rfl,rfl⟩⟩
 |true=>
  obtain⟨hv,hid⟩:=g3 rfl;obtain⟨S,s1,s2,s3,s4⟩:=OW ok ok hv hv (.refl x) hid;obtain⟨n,n1,n2,n3⟩:=QF ok ok hv hv (.refl x) hid;obtain⟨l,b,l1,l2,l3⟩:=Wv ok ok hv hv (.refl x) hid;obtain⟨w,f,w1,w2,w3⟩:=RI ok ok hv hv (.refl x) hid;have hn:=(WC x ok hv s1 s3 s4).is n1
  have hb: (S≠ [] ->b=true)/\(b=false->f=false):=by
   unfold Fl at l1;simp only[hv,EF,Ec.2 (show 0<=id/\id<=4 by omega),n1,w1,ao,Eb,CG] at l1;cases h:x.master.activated==0 with
   |true=>rw[h] at l1;simp only[CG,af,au] at l1;rw[<-l1.2.1];exact⟨λ_=>rfl,nofun⟩
   |false=>
    rw[h] at l1;simp only[BI,CY] at l1;by_cases hn0:n≥0
    ·obtain⟨t,t1,t2,_⟩:=HI ok (El ok hv) (by omega:0<=n/\n<5);rw[if_pos hn0,BX,if_pos hn0,t1,ao,(Ki _ t2.2.1).1,ao] at l1;simp only[af,au] at l1;rw[<-l1.2.1];exact⟨λ_=>rfl,nofun⟩
    ·rw[if_neg hn0] at l1;simp only[af,au] at l1;refine⟨λh=> ?_,λh=>l1.2.1.trans h⟩;exact absurd (s4 _ (hn.2 h)).1 hn0
  refine⟨S,n,l,b,w,f,s1,s2,n1,n2,l1,l2,w1,w2,s3,l3,by omega,λh=>⟨hb.1 h,hn.2 h⟩,λh=>⟨?_,hb.2 h⟩⟩;exact Classical.byContradiction λh2=>by rw[hb.1 h2] at h;cases h
end
section
theorem Yp(x:qg)(ok:Ew 1048576 x){a b:Int}(ha: ¬ (0<=a/\a<5)):EK x.sides a b=some (false,())/\Hm x.sides a b=some (false,()):=by
 obtain⟨v,s1,s2⟩:=Kr x.sides (Em ok.2.1)
 have wa:Gp a 0 4=false:=by
  cases h:Gp a 0 4 with
  |false=>rfl
  |true=>exact absurd (by have:=Ec.1 h;omega) ha
 unfold EK Hm;rw[s1,s2];simp only[EF,IU,wa,ao];cases v<;>exact⟨rfl,rfl⟩
theorem Yn(x:qg)(ok:Ew 1048576 x){id:Int}(e:Int)(hid: ¬ (0<=id/\id<5)):EO x id e=some (x,())/\Ia x id e=some (x,()):=by
 obtain⟨v,v1,v2⟩:=Fd x ok;obtain⟨c,d,d1,d2,d3⟩:=Q6 x ok;obtain⟨m,m1,m2,m3,m4,m5,_⟩:=Hc c d3;have mm:m.length<=maxLen:=by unfold maxLen;omega
 unfold EO Ia;simp only[(EG x ok).1,(EG x ok).2,d1,d2,v1,v2,EF,IU,ao,Eb];cases v with
 |false=>exact⟨rfl,rfl⟩
 |true=>
 have vc:=El ok v1;cases d with
 |false=>exact⟨rfl,rfl⟩
 |true=>
 cases Gp e 1 (x.master.configs.length:Int) with
 |false=>exact⟨rfl,rfl⟩
 |true=>
  obtain⟨_,_,k1,k2⟩:=M6 (B1:=EX) (B2:=GA) m.length
   (λk (_:Unit)=>((id,e,(),(),(),(),(k:Int),()),(fx x,fz,fc x,()),(m,x.servers,x.sides,x.master.configs,x.places,())))
   (λk (_:Unit)=>((id,e,(),(),(),(),(m.length:Int),(k:Int),()),(fx x,fz,fc x,()),(m,x.servers,x.sides,x.master.configs,x.places,())))
   (λ_ _=>True)
   (λ_=>(((),(),()),(fz,fc x,()),(x.servers,x.sides,x.master.configs,x.places,())))
   (λ_=>(((),(),()),(fz,fc x,()),(x.servers,x.sides,x.master.configs,x.places,())))
   (λ_ _=>by simp only[EX,GA,CY];exact⟨if_neg (by omega),if_neg (by omega)⟩)
   (λk _ hk _=>by
     have c1: (k:Int)< (m.length:Int):=by omega
     have c2: (0:Int)<=(k:Int)/\(k:Int)< (m.length:Int):=by omega
     have hz:=m4 _ (DF hk);have hg:m[k]? =some m[k] :=aq hk;generalize m[k] =z at hz hg;obtain⟨s,s1,s2,_⟩:=HI ok vc hz;obtain⟨h1,h2⟩:=Yp x ok (b:=z) hid;have c3:0<=z/\z< (x.servers.length:Int):=by rw[vc.len];exact hz
     refine⟨(),?_,?_,trivial⟩
     ·simp only[EX,fx,CY,BX,if_pos c1,if_pos c2,DC,hg,ao,if_pos hz.1,s1,h1,BG mm hk,BI];cases s.up<;>rfl
     ·simp only[GA,fx,CY,BX,if_pos c1,if_pos c2,DC,hg,ao,if_pos c3,s1,h2,BG mm hk,BI];cases s.up<;>rfl)
   () trivial
  simp only[CG,m1,m2,ao];rw[show KQ ((id,e,(),(),(),(),0,()),(fx x,fz,fc x,()),(m,x.servers,x.sides,x.master.configs,x.places,()))=_ from k1,show KP ((id,e,(),(),(),(),(m.length:Int),0,()),(fx x,fz,fc x,()),(m,x.servers,x.sides,x.master.configs,x.places,()))=_ from k2];exact⟨rfl,rfl⟩
theorem Zi(x:qg)(ok:Ew 1048576 x)(id e:Int): ∃y,EO x id e=some (y,())/\Ia x id e=some (y,())/\Ew 1048576 y/\(Ea x=some (true,())->Ea y=some (true,())/\Wy x y/\ ∃S,y=K2 x S):=by
 by_cases hid:0<=id/\id<5
 ·obtain⟨v,v1,v2⟩:=Fd x ok;cases v with
  |true=>obtain⟨S,a1,a2,a3,a4,a5,_⟩:=Uz x ok v1 (e:=e) hid;exact⟨_,a1,a2,a3,λ_=>⟨a4,a5,S,rfl⟩⟩
  |false=>
   obtain⟨c,d,d1,d2,_⟩:=Q6 x ok;refine⟨x,?_,?_,ok,λh=>by rw[v1] at h;cases h⟩
   ·unfold EO;simp only[(EG x ok).1,d1,v1,ao,Eb];rfl
   ·unfold Ia;simp only[(EG x ok).2,d2,v2,ao,Eb];rfl
 ·obtain⟨a1,a2⟩:=Yn x ok e hid;exact⟨x,a1,a2,ok,λh=>⟨h,.refl x,x.servers,rfl⟩⟩
theorem Yo(s:qj)(e:Int)(h:ED 1048576 s)(h0:0<=s.epoch)(he:1<=e/\e<=20): ∃ep b,F2 s e=some (Ht s ep,b,())/\e<=ep:=by
 unfold F2;simp only[(L5 s h).1,EF,Ec.2 he,ao,Eb,CG,CY];by_cases h1:e<=s.epoch
 ·rw[if_pos h1];exact⟨s.epoch,false,rfl,h1⟩
 ·rw[if_neg h1,if_neg (by omega)];exact⟨e,true,rfl,cU e⟩
theorem ZR(x:qg)(ok:Ew 1048576 x)(hv:Ea x=some (true,())){id e:Int}{c:nE}(hc:Ef x.master=some (c,true,()))(hcc:Gc maxLen c)(he:1<=e/\e<=(x.master.configs.length:Int)){M:List Int}(hM:EI c=some (M,()))(hr: ∀z∈M,0<=z/\z<5)(hl:M.length<=10):
  Tt (λy=> ∀z∈M,∀s,x.servers[z.toNat]? =some s->s.up=true->EK x.sides id z=some (true,())-> ∀t,y.1.servers[z.toNat]? =some t->e<=t.epoch) (EO x id e):=by
 have vc:=El ok hv;have hml:=Sz ok.2.2.1 vc.ml;have mm:M.length<=maxLen:=by unfold maxLen;omega
 unfold EO;simp only[(EG x ok).1,hc,hv,EF,Ec.2 he,hM,ao,Eb,CG]
 refine .bind (.count (B:=EX) (E:=λq=> ∀z∈M,∀s,x.servers[z.toNat]? =some s->s.up=true->EK x.sides id z=some (true,())-> ∀t,q.2.2.1[z.toNat]? =some t->e<=t.epoch) M.length
  (λk (S:List qj)=>((id,e,(),(),(),(),(k:Int),()),(fx x,fz,fc x,()),(M,S,x.sides,x.master.configs,x.places,())))
  (λk S=>S.length=5/\ ∀j z,j<k->M[j]? =some z-> ∀s,x.servers[z.toNat]? =some s->s.up=true->EK x.sides id z=some (true,())-> ∀t,S[z.toNat]? =some t->e<=t.epoch)
  (λS hS=> .end (DH _) (.ret λz hz=> ?_)) (λk S hk hS=> ?_) x.servers ⟨vc.len,λj z h=>absurd h (DQ j)⟩) λq hq=> .ret hq
 ·obtain⟨j,hj,rfl⟩:=aU hz;exact hS.2 j _ hj (aq hj)
 ·have c1: (k:Int)< (M.length:Int):=by omega
  have c2: (0:Int)<=(k:Int)/\(k:Int)< (M.length:Int):=by omega
  have hz:=hr _ (DF hk);have hg:M[k]? =some M[k] :=aq hk;generalize M[k] =z at hz hg;obtain⟨s,s1,s2,s3⟩:=HI ok vc hz;have c3:0<=z/\z< (S.length:Int):=by rw[hS.1];exact hz
  have hlt:z.toNat<S.length:=by omega
  obtain⟨_,_,_,_,_,_,_,e0,_⟩:=FO s2 s3;obtain⟨ep,b,q1,q2⟩:=Yo s e s2 e0 ⟨he.1,by omega⟩
  have keep: (s.up=true->EK x.sides id z=some (true,())->False)->S.length=5/\ ∀j z,j<k+1->M[j]? =some z-> ∀s,x.servers[z.toNat]? =some s->s.up=true->EK x.sides id z=some (true,())-> ∀t,S[z.toNat]? =some t->e<=t.epoch:=λhn=>⟨hS.1,λj z' hj hz' s' hs' hu hsd t ht=>by
   by_cases hjk:j=k
   ·subst hjk;rw[hg] at hz';obtain rfl:=Option.some.inj hz';rw[s1] at hs';obtain rfl:=Option.some.inj hs';exact (hn hu hsd).elim
   ·exact hS.2 j z' (by omega) hz' s' hs' hu hsd t ht⟩
  obtain⟨sd,sd1,_⟩:=RF ok vc id z;simp only[EX,fx,CY,BX,if_pos c1,if_pos c2,DC,hg,ao,if_pos hz.1,if_pos c3,s1,sd1,aq hlt,q1,BG mm hk];cases hu:s.up with
  |false=>exact .ret ⟨S,rfl,keep λh=>by rw[hu] at h;cases h⟩
  |true=>
   cases hd:sd.1 with
   |false=>exact .ret ⟨S,rfl,keep λ_ h=>by rw[sd1] at h;rw[Option.some.inj h] at hd;cases hd⟩
   |true=>
    refine .ret ⟨S.set z.toNat (Ht s ep),rfl,by rw[DI];exact hS.1,λj z' hj hz' s' hs' hu' hsd t ht=> ?_⟩;by_cases hzz:z.toNat=z'.toNat
    ·rw[<-hzz,DG hlt] at ht;rw[<-Option.some.inj ht];exact q2
    ·rw[DJ hzz] at ht;by_cases hjk:j=k
     ·subst hjk;rw[hg] at hz';exact absurd (congrArg Int.toNat (Option.some.inj hz')) hzz
     ·exact hS.2 j z' (by omega) hz' s' hs' hu' hsd t ht
structure Co (x y:qg):Prop where
 sides:y.sides=x.sides
 master:y.master=x.master
 srv: ∀ (j:Nat) s,x.servers[j]? =some s-> ∃t,y.servers[j]? =some t/\t.up=s.up/\t.version=s.version/\t.epoch=s.epoch/\t.config=s.config
theorem Co.self(x:qg):Co x x:=⟨rfl,rfl,λ_ s h=>⟨s,h,rfl,rfl,rfl,rfl⟩⟩
theorem Co.trans{x y z:qg}(h:Co x y)(k:Co y z):Co x z:=⟨k.1.trans h.1,k.2.trans h.2,λj s hs=>by obtain⟨t,t1,t2,t3,t4,t5⟩:=h.srv j s hs;obtain⟨u,u1,u2,u3,u4,u5⟩:=k.srv j t t1;exact⟨u,u1,u2.trans t2,u3.trans t3,u4.trans t4,u5.trans t5⟩⟩
theorem Co.set{x y:qg}(h:Co x y){i:Nat}{s t:qj}(hs:y.servers[i]? =some s)(h1:t.up=s.up)(h2:t.version=s.version)(h3:t.epoch=s.epoch)(h4:t.config=s.config):Co x ⟨y.now,y.servers.set i t,y.sides,y.master,y.masterUp,y.lease,y.places⟩:=
 h.trans ⟨rfl,rfl,λj u hu=>by
  by_cases hj:i=j
  ·subst hj;rw[hs] at hu;obtain rfl:=Option.some.inj hu;exact⟨t,DG (C5 hs),h1,h2,h3,h4⟩
  ·exact⟨u,(DJ hj).trans hu,rfl,rfl,rfl,rfl⟩⟩
def Hr(x:qg)(a b:Int):Prop:=∀p q,x.servers[a.toNat]? =some p->x.servers[b.toNat]? =some q->q.epoch=p.epoch/\q.config=p.config
theorem Co.hr{x y:qg}(h:Co x y){a b:Int}(hh:Hr y a b):Hr x a b:=λp q hp hq=>by obtain⟨p',p1,_,_,p2,p3⟩:=h.srv _ _ hp;obtain⟨q',q1,_,_,q2,q3⟩:=h.srv _ _ hq;obtain⟨e1,e2⟩:=hh p' q' p1 q1;exact⟨q2.symm.trans (e1.trans p2),q3.symm.trans (e2.trans p3)⟩
theorem Zv{x:qg}(ok:Ew 1048576 x)(vc:VC x){a b:Int}(ha:0<=a/\a<5)(hb:0<=b/\b<5):Tt (λy=>y.1=true->Hr x a b) (FK x a b):=by unfold FK;have no:Tt (λy:Bool×Unit=>y.1=true->Hr x a b) (some (false,())):=.ret nofun;refine .srv ok vc hb λm m1 m2 _=> .bind (RF ok vc a b) λ_ _=> .br (λ_=> .br (λ_=> .srv ok vc ha λp p1 p2 _=> .br (λhe=> .srv ok vc ha λ_ _ _ _=> .br (λ_=> .srv ok vc ha λq q1 _ _=> ?_) λ_=>no) λ_=>no) λ_=>no) λ_=>no;rw[(FV m.config q.config (Ee m2.1)).1];refine .ret λh p' q' hp hq=> ?_;rw[p1] at hp;rw[m1] at hq;rw[p1] at q1;obtain rfl:=Option.some.inj hp;obtain rfl:=Option.some.inj hq;obtain rfl:=Option.some.inj q1;exact⟨eq_of_beq he,of_decide_eq_true h⟩
theorem SC{s:qj}{id:Int}(ok:ED 1048576 s)(h:Er s id=some (true,())):s.epoch=s.config.epoch:=by
 obtain⟨v,v1,_⟩:=Jp s id ok;obtain⟨n,n1,_⟩:=KU s.config id (Ee ok.1);unfold Er at h;simp only[v1,n1,ao] at h;cases v with
 |false=>cases h
 |true=>
  cases hu:s.up with
  |false=>rw[hu] at h;cases h
  |true=>
   rw[hu] at h;cases hn:n==1 with
   |false=>rw[hn] at h;cases h
   |true=>rw[hn] at h;exact eq_of_beq (Prod.mk.inj (Option.some.inj h)).1
end
section
theorem N7:EL [] =some (true,()):=(IT [] (by unfold maxLen;decide)).2 ⟨by decide,λk h=>absurd h (DQ k)⟩
theorem Mw{α:Type}{P:Prop}{b:Bool}{x y z:Option α}(h:br b x y=z)(h1:b=true->x=z->P)(h2:b=false->y=z->P):P:=by
 cases b with
 |true=>exact h1 rfl h
 |false=>exact h2 rfl h
theorem V4{s:qj}{id n:Int}(ok:ED 1048576 s)(hv:Ed s id=some (true,()))(hn:EJ s.config id=some (n,()))(h3: (n==3)=false):s.first=0:=by
 have hc:=Ee ok.1;obtain⟨_,_,_,_,_,f6,f7,_⟩:=FO ok hv;obtain⟨e,e1,_⟩:=GU s.log (Em ok.2.1);have no: ∀ {P:Prop},some (false,())=some (true,())->P:=λh=>by cases h
 unfold Ed at hv;simp only[EF,f6,f7,Ih s.config hc,hn,e1,ao,Eb,CG] at hv;refine Mw hv (λ_ hv=>Mw hv (λ_ hv=>Mw hv (λ_ hv=>Mw hv (λ_ hv=>Mw hv (λ_ hv=>Mw hv (λ_ hv=>Mw hv (λh _=>eq_of_beq h) λ_ h=>no h) λ_ hv=>Mw hv (λ_ hv=>Mw hv (λ_ h=>no h) λ_ hv=>Mw hv (λ_ h=>no h) λ_ hv=>Mw hv (λ_ h=>no h) λ_ hv=> ?_) λ_ h=>no h) λ_ h=>no h) λ_ h=>no h) λ_ h=>no h) λ_ h=>no h) λ_ h=>no h;rw[h3] at hv;exact eq_of_beq (Prod.mk.inj (Option.some.inj hv)).1
def Sm(x:qg)(l:List rj)(m:Int):Prop:=∀t,x.servers[m.toNat]? =some t->t.first+(t.log.length:Int)=(l.length:Int)/\0<=t.first/\t.log=l.drop t.first.toNat
theorem ZL(x:qg)(ok:Ew 1048576 x)(id m:Int):Tt (λy=>Kp x y.1/\(∀p,x.servers[id.toNat]? =some p->(∃p',y.1.servers[id.toNat]? =some p'/\p'.log=p.log)/\(∀k:Int,Sm x p.log k->Sm y.1 p.log k)/\(y.2.1=true->Sm y.1 p.log m))) (F0 x id m):=by
 obtain⟨b,b1,_,b2⟩:=J9 x ok id;have bad:Tt (λy:qg×Bool×Unit=>Kp x y.1/\(∀p,x.servers[id.toNat]? =some p->(∃p',y.1.servers[id.toNat]? =some p'/\p'.log=p.log)/\(∀k:Int,Sm x p.log k->Sm y.1 p.log k)/\(y.2.1=true->Sm y.1 p.log m))) (some (x,false,())):=.ret ⟨.self ok,λp hp=>⟨⟨p,hp,rfl⟩,λ_ h=>h,nofun⟩⟩;unfold F0;rw[(EG x ok).1,ao,b1,ao,Eb];refine .br (λe=> ?_) λ_=>bad;obtain⟨hv,h0,h5,hp⟩:=b2 e;have vc:=El ok hv;refine .srv ok vc ⟨h0,h5⟩ λs s1 s2 s3=> .bind (LM _ (Ee s2.1)) λy hy=> ?_;rw[(Ey y.1 m (by have:=hy.1;unfold maxLen;omega)).1,ao,Eb];refine .br (λhm=> ?_) λ_=>bad;have hm:=hy.2 m (of_decide_eq_true hm);refine .bind (Zv ok vc ⟨h0,h5⟩ hm) λz hz=> ?_;rw[Eb];refine .br (λe=> .srv ok vc ⟨h0,h5⟩ λt t1 t2 t3=> .srv ok vc ⟨h0,h5⟩ λu u1 u2 _=> ?_) λ_=>bad;have hz:=hz e;obtain rfl:t=s:=Option.some.inj (t1.symm.trans s1);obtain rfl:u=t:=Option.some.inj (u1.symm.trans s1);obtain⟨w,w1,w2,w3⟩:=HI ok vc hm;have hwc:w.config=u.config:=(hz u w s1 w1).2;obtain⟨n,n1,_⟩:=KU u.config m (Ee u2.1);have pf:=Hk u2 (hp u s1);obtain⟨n',n1',_,_,n4⟩:=Nd u.config m (Ee u2.1) pf.1;obtain rfl:n=n':=(Prod.mk.inj (Option.some.inj (n1.symm.trans n1'))).1;rw[n1,ao];have hlt:m.toNat<x.servers.length:=C5 w1;have hlu:=u2.2.1
 have fin: ∀ (v:qj),ED 1048576 v->v.first+(v.log.length:Int)=(u.log.length:Int)->0<=v.first->v.log=u.log.drop v.first.toNat->(m=id->v.log=u.log)-> ∀p,x.servers[id.toNat]? =some p->(∃p',(x.servers.set m.toNat v)[id.toNat]? =some p'/\p'.log=p.log)/\(∀k:Int,Sm x p.log k->Sm ⟨x.now,x.servers.set m.toNat v,x.sides,x.master,x.masterUp,x.lease,x.places⟩ p.log k)/\(true=true->Sm ⟨x.now,x.servers.set m.toNat v,x.sides,x.master,x.masterUp,x.lease,x.places⟩ p.log m):=by
  intro v _ v1 v2 v3 v4 p hp;obtain rfl:p=u:=Option.some.inj (hp.symm.trans s1)
  have here:Sm ⟨x.now,x.servers.set m.toNat v,x.sides,x.master,x.masterUp,x.lease,x.places⟩ p.log m:=λt ht=>by rw[show (x.servers.set m.toNat v)[m.toNat]? =some v from DG hlt] at ht;obtain rfl:=Option.some.inj ht;exact⟨v1,v2,v3⟩
  refine⟨?_,λk hk t ht=> ?_,λ_=>here⟩
  ·by_cases hmi:m.toNat=id.toNat
   ·rw[<-hmi];exact⟨v,DG hlt,v4 (by omega)⟩
   ·exact⟨p,by rw[DJ hmi];exact hp,rfl⟩
  ·by_cases hmk:m.toNat=k.toNat
   ·rw[<-hmk] at ht;exact here t ht
   ·exact hk t (by rw[<-DJ hmk];exact ht)
 have five: ∀ (i:Nat) (s:qj),(x.servers.set i s).length=5:=λi s=>by rw[DI];exact vc.len
 refine .br (λhn3=> ?_) λhn3=> ?_
 ·rw[RD u.log u2.2.1 (FO u2 s3).2.2.2.2.2.1,ao];refine .ip (by show 0<=m/\m< (x.servers.length:Int);rw[vc.len];exact hm) (.at vc.len hm λa a1 ha=> ?_);obtain rfl:a=w:=Option.some.inj (a1.symm.trans w1);refine .get (by rw[five];omega) λa' a1' ha'=> ?_;rw[show (x.servers.set m.toNat (⟨a.up,a.intact,a.version,a.epoch,a.config,((cutAt u.log:Nat):Int),a.log,a.commit,a.learned⟩:qj))[m.toNat]? =some _ from DG hlt] at a1';obtain rfl:=Option.some.inj a1';rw[List.set_set];have hc:cutAt u.log<=u.log.length:=by unfold cutAt;omega
  have okv:ED 1048576 ⟨a.up,a.intact,a.version,a.epoch,a.config,((cutAt u.log:Nat):Int),u.log.drop (cutAt u.log),a.commit,a.learned⟩:=⟨w2.1,by show List.length _<=_;rw[co];omega,w2.2.2⟩
  refine .ret ⟨(Kp.self ok).set okv _,fin _ okv ?_ (DD _) ?_ λh=>absurd (h.trans pf.2) (n4 (eq_of_beq hn3))⟩
  ·show ((cutAt u.log:Nat):Int)+((u.log.drop (cutAt u.log)).length:Int)=_;rw[co];omega
  ·show u.log.drop (cutAt u.log)=u.log.drop ((cutAt u.log:Nat):Int).toNat;rw[DC]
 ·rw[Oh u2.2.1,ao];refine .at vc.len hm λa a1 ha=> ?_;obtain rfl:a=w:=Option.some.inj (a1.symm.trans w1);have hf:a.first=0:=V4 w2 w3 (by rw[hwc];exact n1) hn3;have okv:ED 1048576 ⟨a.up,a.intact,a.version,a.epoch,a.config,a.first,u.log,a.commit,a.learned⟩:=⟨w2.1,u2.2.1,w2.2.2⟩
  refine .ret ⟨(Kp.self ok).set okv _,fin _ okv ?_ ?_ ?_ λ_=>rfl⟩
  ·show a.first+(u.log.length:Int)=_;omega
  ·show 0<=a.first;omega
  ·show u.log=u.log.drop a.first.toNat;rw[hf];rfl
theorem Tt.and{α:Type}{Q Q':α->Prop}{r:Option α}(h:Tt Q r)(h':Tt Q' r):Tt (λa=>Q a/\Q' a) r:=by obtain⟨a,rfl,h⟩:=h;exact⟨a,rfl,h,h'.is rfl⟩
end
section
def Ev{α:Type}(Q:α->Prop)(r:Option α):Prop:=∀a,r=some a->Q a
section
variable {α β σ ε:Type} {Q:α->Prop} {Q':β->Prop}
theorem Ev.ret{a:α}(h:Q a):Ev Q (some a):=λ_ e=>Option.some.inj e ▸ h
theorem Ev.no:Ev Q none:=nofun
theorem Ev.bd{r:Option α}{k:α->Option β}(hk: ∀a,r=some a->Ev Q' (k a)):Ev Q' (r.bind k):=λb e=>by
 cases r with
 |none=>cases e
 |some a=>exact hk a rfl b e
theorem Ev.bind{r:Option α}{k:α->Option β}(h:Ev Q r)(hk: ∀a,Q a->Ev Q' (k a)):Ev Q' (r.bind k):=.bd λa e=>hk a (h a e)
theorem Ev.br{b:Bool}{x y:Option α}(h1:b=true->Ev Q x)(h2:b=false->Ev Q y):Ev Q (Go.Proofs.YtkghndikalnipacGreat.En.br b x y):=by
 cases b with
 |true=>exact h1 rfl
 |false=>exact h2 rfl
theorem Ev.brn{b:Bool}{x y:Option α}(h1:b=true->Ev Q y)(h2:b=false->Ev Q x):Ev Q (Go.Proofs.YtkghndikalnipacGreat.En.br (!b) x y):=by
 cases b with
 |true=>exact h1 rfl
 |false=>exact h2 rfl
theorem Ev.ip{p:Prop}{d:Decidable p}{x:Option α}(h:p->Ev Q x):Ev Q (@iteP _ p d x none):=by
 by_cases hp:p
 ·rw[B0 hp];exact h hp
 ·rw[BZ hp];exact .no
theorem Ev.ite{p:Prop}{d:Decidable p}{x y:Option α}(h:p->Ev Q x)(h2: ¬p->Ev Q y):Ev Q (@iteP _ p d x y):=by
 by_cases hp:p
 ·rw[B0 hp];exact h hp
 ·rw[BZ hp];exact h2 hp
theorem Ev.mono{Q2:α->Prop}{r:Option α}(h:Ev Q r)(hq: ∀a,Q a->Q2 a):Ev Q2 r:=λa e=>hq a (h a e)
theorem Ev.and{Q2:α->Prop}{r:Option α}(h:Ev Q r)(h2:Ev Q2 r):Ev (λa=>Q a/\Q2 a) r:=λa e=>⟨h a e,h2 a e⟩
theorem Ev.loop{B:σ->Option (σ⊕ε)}{E:ε->Prop}(I:σ->Prop)(h: ∀s,I s->Ev (Sum.elim I E) (B s)){s:σ}(hs:I s):Ev E (nw B s):=by
 intro e he;obtain⟨n,hn⟩:=jO.1 he;clear he
 induction n generalizing s with
 |zero=>cases hn
 |succ n ih=>
  unfold lf at hn;cases hB:B s with
  |none=>rw[hB] at hn;cases hn
  |some r=>
   rw[hB] at hn;have hr:=h s hs r hB;cases r with
   |inl s'=>exact ih hr hn
   |inr e'=>exact Option.some.inj hn ▸ hr
theorem Ev.count{B:σ->Option (σ⊕ε)}{E:ε->Prop}(m:Nat->β->σ)(J:Nat->β->Prop)(h: ∀k b,J k b->Ev (Sum.elim (λs=> ∃b',s=m (k+1) b'/\J (k+1) b') E) (B (m k b))){b:β}(hb:J 0 b):Ev E (nw B (m 0 b)):=
 Ev.loop (λs=> ∃k b,s=m k b/\J k b) (λs hs=>by
  obtain⟨k,b,rfl,hJ⟩:=hs;refine (h k b hJ).mono λr hr=> ?_;cases r with
  |inl s=>obtain⟨b',e,hJ'⟩:=hr;exact⟨k+1,b',e,hJ'⟩
  |inr e=>exact hr) ⟨0,b,rfl,hb⟩
end
theorem Og(l:List rj):Ev (λy=>y.1=l) (FC l):=by unfold FC;exact .ip λ_=> .ret (bF l)
theorem Z7(a:List rj)(n:Int)(t:List rj):Ev (λy=>y.2.1=true->EL y.1=some (true,())/\ ∀e∈y.1,e∈a\/e∈t) (FZ a n t):=by unfold FZ;refine .bd λ_ _=> .brn (λ_=> .bd λ_ _=> .brn (λ_=> .br (λ_=> .ret nofun) λ_=> .ip λ_=> .bd λy3 _=> .br (λ_=> .ret nofun) λ_=> .bind (Og a) λy4 h4=> .ip λ_=> .ip λ_=> .bd λy5 h5=> .brn (λe5=> .ret λ_=>⟨by rw[h5];exact congrArg some (Prod.ext e5 rfl),λe he=> ?_⟩) λ_=> .ret nofun) λ_=> .ret nofun) λ_=> .ret nofun;rw[h4] at he;exact (bC.1 he).imp id λh=>bE (bS h)
theorem Zd(s:qj):Ev (λy=> ∀e∈y.1,e∈s.log) (EE s):=by unfold EE;refine .bd λ_ _=> .brn (λ_=> .br (λ_=> .ret nofun) λ_=> .ip λ_=> .bind (Og _) λy h=> .ret λe he=> ?_) λ_=> .ret nofun;rw[h] at he;exact bE (bS he)
theorem Z0(s:qj)(id:Int):Ev (λy=> ∀e∈y.1,e∈s.learned\/e∈s.log) (G9 s id):=by unfold G9;refine .bd λ_ _=> .bind (Og _) λy2 h2=> ?_;have h2: ∀e∈y2.1,e∈s.learned\/e∈s.log:=λe he=> .inl (h2 ▸ he);exact .br (λ_=> .bind (Zd s) λy hy=> .br (λ_=> .ret λe he=> .inr (hy e he)) λ_=> .ret h2) λ_=> .br (λ_=> .bind (Zd s) λy hy=> .br (λ_=> .ret λe he=> .inr (hy e he)) λ_=> .ret h2) λ_=> .ret h2
end
section
theorem Ue{l:List rj}(hl:l.length<=maxLen)(h:EL l=some (true,())){e:Int}(he:GS l=some (e,())): ∀x∈l,x.epoch<=e:=by
 obtain⟨_,h2⟩:=(IT l hl).1 h
 have step: ∀k (hk:k+1<l.length),(l[k]'(by omega)).epoch<=(l[k+1]'hk).epoch:=by intro k hk;have h3:=h2 (k+1) hk;unfold Q7 at h3;rw[aq hk,show k+1-1=k from rfl,aq (by omega)] at h3;simp at h3;omega
 have chain: ∀d k (hk:k+d<l.length),(l[k]'(by omega)).epoch<=(l[k+d]'hk).epoch:=by
  intro d
  induction d with
  |zero=>intro k hk;exact cU _
  |succ d ih=>intro k hk;exact Int.le_trans (ih k (by omega)) (step (k+d) hk)
 intro x hx;obtain⟨k,hk,rfl⟩:=aU hx;unfold GS at he;unfold maxLen at hl;rw[show ((l.length:Int)==0)=false from beq_eq_false_iff_ne.2 (by omega),BI,vM (by omega) (by omega),B0 (by omega),aq (by omega),ao] at he;rw[<-(Prod.mk.inj (Option.some.inj he)).1];have h4:=chain (l.length-1-k) k (by omega);have e1:k+(l.length-1-k)=((l.length:Int)-1).toNat:=by omega
 simp only[e1] at h4;exact h4
theorem Ud{l:List rj}{n:Int}(h0:0<=n)(h: ∀x∈l,x.epoch<=n):Ev (λy=>y.1<=n) (GS l):=by unfold GS;exact .br (λ_=> .ret h0) λ_=> .ip λ_=> .bd λx hx=> .ret (h x (aA hx))
theorem Vq{s:qj}{id:Int}(ok:ED 1048576 s)(hv:Ed s id=some (true,())): ∀e∈s.log,e.epoch<=s.config.epoch:=by
 have hc:=Ee ok.1;obtain⟨_,_,_,_,_,f6,f7,_⟩:=FO ok hv;obtain⟨e,e1,_⟩:=GU s.log (Em ok.2.1);obtain⟨n,n1,_⟩:=KU s.config id hc;have no: ∀ {P:Prop},some (false,())=some (true,())->P:=λh=>by cases h
 unfold Ed at hv;simp only[EF,f6,f7,Ih s.config hc,n1,e1,ao,Eb,CG] at hv;refine Mw hv (λ_ hv=>Mw hv (λ_ hv=>Mw hv (λ_ hv=>Mw hv (λ_ hv=>Mw hv (λ_ hv=>Mw hv (λ_ hv=>Mw hv (λ_ hv=>Mw hv (λh0 _=> ?_) λ_ h=>no h) λ_ h=>no h) λ_ hv=>Mw hv (λ_ hv=>Mw hv (λ_ h=>no h) λ_ hv=>Mw hv (λ_ h=>no h) λhle _=> ?_) λ_ h=>no h) λ_ h=>no h) λ_ h=>no h) λ_ h=>no h) λ_ h=>no h) λ_ h=>no h
 ·have h0: (s.log.length:Int)=0:=eq_of_beq h0;rw[ba (by omega:s.log.length=0)];exact nofun
 ·have hle: ¬e>s.config.epoch:=of_decide_eq_false hle
  exactλx hx=>Int.le_trans (Ue (Em ok.2.1) f6 e1 x hx) (by omega)
theorem SV.old2{m:jY}{s:qj}{k:Int}(h:SV m s k)(h0:0<=m.activated):s.config.epoch<=m.activated:=by
 rcases h.cfg with h| ⟨_,h⟩
 ·rw[h];exact h0
 ·exact h
theorem UJ{x:qg}(ok:Ew 1048576 x)(hv:Ea x=some (true,())){k:Nat}{s:qj}(hs:x.servers[k]? =some s): ∀e,e∈s.learned\/e∈s.log->e.epoch<=x.master.activated:=by
 have vc:=El ok hv;obtain⟨_,f2,_⟩:=II (Ff ok.2.2.1) vc.ml;have hlt:=C5 hs;have sv:=K1 ok hv k hlt;rw[aq hlt] at hs;rw[Option.some.inj hs] at sv;have oks:ED 1048576 s:=Option.some.inj hs ▸ ok.1.2 _ (DF hlt);obtain⟨_,_,_,_,_,_,f7,_⟩:=FO oks sv.val
 rintro e (he|he)
 ·obtain⟨n,n1,n2⟩:=sv.lrn;exact Int.le_trans (Ue (Em oks.2.2) f7 n1 e he) n2
 ·exact Int.le_trans (Vq oks sv.val e he) (sv.old2 f2)
def Lg(A:Int)(l:List rj):Prop:=EL l=some (true,())/\ ∀e∈l,e.epoch<=A
section
variable {x:qg} {A:Int} (hd: ∀ (k:Nat) s,x.servers[k]? =some s-> ∀e,e∈s.learned\/e∈s.log->e.epoch<=A)
include hd
theorem Zx(s0: (Int×Unit×Unit×Bool×Unit×Bool×Int×Unit×Int×Unit)×((Int×List qj×List Int×List nE×Int×Int×Int×Int×Int×List uN×Unit)×(Int×Int×Unit×Unit×Unit)×(Bool×Bool×Int×Int×Int×Int×List Int×List Int×Int×List rj×Int×List rj×Unit)×Unit)×List rj×List Int×List Int×Unit)
  (h1:s0.2.1.1=fx x) (hw: ∀e∈s0.2.1.2.2.1.2.2.2.2.2.2.2.2.2.1,e.epoch<=A) (h2:s0.1.2.2.2.1=true->Lg A s0.2.2.1):Ev (λe=>e.2.1.1=fx x/\(e.1.2.2.2.1=true->Lg A e.2.2.1)) (H1 s0):=by
 refine .loop (B:=Fw) (λs=>s.2.1.1=fx x/\(∀e∈s.2.1.2.2.1.2.2.2.2.2.2.2.2.2.1,e.epoch<=A)/\(s.1.2.2.2.1=true->Lg A s.2.2.1)) (λs hs=> ?_) ⟨h1,hw,h2⟩;obtain⟨i1,i2,i3⟩:=hs;unfold Fw;refine .br (λ_=> .ip λ_=> .bd λt ht=> ?_) λ_=> .ret ⟨i1,i3⟩
 extract_lets j66
 generalize hQ: (Sum.elim (λs: (Int×Unit×Unit×Bool×Unit×Bool×Int×Unit×Int×Unit)×((Int×List qj×List Int×List nE×Int×Int×Int×Int×Int×List uN×Unit)×(Int×Int×Unit×Unit×Unit)×(Bool×Bool×Int×Int×Int×Int×List Int×List Int×Int×List rj×Int×List rj×Unit)×Unit)×List rj×List Int×List Int×Unit=>s.2.1.1=fx x/\(∀e∈s.2.1.2.2.1.2.2.2.2.2.2.2.2.2.1,e.epoch<=A)/\(s.1.2.2.2.1=true->Lg A s.2.2.1)) (λe: (Int×Unit×Unit×Bool×Unit×Bool×Int×Unit)×((Int×List qj×List Int×List nE×Int×Int×Int×Int×Int×List uN×Unit)×(Int×Int×Unit×Unit×Unit)×Unit)×List rj×List Int×List Int×Unit=>e.2.1.1=fx x/\(e.1.2.2.2.1=true->Lg A e.2.2.1)))=Q;have keep:Ev Q (j66 s.2.2.1 s.1.2.2.2.1):=hQ ▸ .ret ⟨i1,i2,i3⟩;refine .brn (λ_=> .bd λ_ _=> .brn (λ_=> .ip λ_=> .bd λu hu=> .bind (Z0 u _) λy hy=> .bind (Z7 _ _ _) λz hz=> .br (λhz2=> ?_) λ_=>keep) λ_=>keep) λ_=>keep
 have hu2: ∀e,e∈u.learned\/e∈u.log->e.epoch<=A:=by rw[i1] at hu;exact hd _ u hu
 have new:Ev Q (j66 z.1 true):=hQ ▸ .ret ⟨i1,i2,λ_=>⟨(hz hz2).1,λe he=>((hz hz2).2 e he).elim (λh=>hu2 e (hy e h)) (i2 e)⟩⟩;exact .brn (λ_=> .br (λ_=>new) λ_=>keep) λ_=>new
theorem XR(id:Int):Ev (λy=>y.2.1=true->Lg A y.1) (EP x id):=by unfold EP;refine .bd λy1 _=> .bind (.loop (B:=Fk) (E:=λe=>e.1.2.1=true->Lg A e.2.2.1) (λs=>s.2.1.1=fx x/\(s.1.2.2.2.1=true->Lg A s.2.2.1)) (λs hs=> ?_) ⟨rfl,nofun⟩) λe he=> .ret he;obtain⟨i1,i2⟩:=hs;unfold Fk;refine .br (λ_=> .br (λ_=> .bd λ_ _=> .br (λ_=> .bd λ_ _=> .br (λ_=> .ip λ_=> .bd λ_ _=> .ip λ_=> .bd λw hw=> .brn (λ_=> .brn (λ_=> .ip λ_=> .bd λ_ _=> .bd λ_ _=> .brn (λ_=> ?_) λ_=> .ret ⟨i1,i2⟩) λ_=> .ret ⟨i1,i2⟩) λ_=> .ret ⟨i1,i2⟩) λ_=> .ret i2) λ_=> .ret i2) λ_=> .ret i2) λ_=> .ret i2;rw[i1] at hw;exact .bind (Zx hd _ i1 (λe he=>hd _ w hw e (.inr he)) i2) λe he=> .ret ⟨he.1,he.2⟩
end
theorem Yt(x:qg)(ok:Ew 1048576 x)(id:Int):Ev (λy=>y.2.1=true->Lg x.master.activated y.1) (Fl x id):=by
 unfold Fl;refine .bd λv hv=> .brn (λev=> .bd λ_ _=> .brn (λ_=> .br (λ_=> .ret λ_=>⟨N7,nofun⟩) λ_=> .bd λn _=> .br (λ_=> .ip λ_=> .bd λs hs=> .bind (Og _) λy hy=> .ret λ_=> ?_) λ_=> .bind (XR (A:=x.master.activated) (λk s hs=> ?_) id) λy hy=> .ret hy) λ_=> .ret nofun) λ_=> .ret nofun
 all_goals have hv:Ea x=some (true,()):=by rw[hv];exact congrArg some (Prod.ext ev rfl)
 ·show Lg _ y.1;rw[hy];have hlt:=C5 hs;have sv:=K1 ok hv n.1.toNat hlt;rw[aq hlt] at hs;rw[Option.some.inj hs] at sv;have oks:ED 1048576 s:=Option.some.inj hs ▸ ok.1.2 _ (DF hlt);exact⟨(FO oks sv.val).2.2.2.2.2.1,λe he=>UJ ok hv (k:=n.1.toNat) (by rw[aq hlt];exact hs) e (.inr he)⟩
 ·exact UJ ok hv hs
end
section
theorem TG(c:nE):Ev (λy=>y.1=c) (GW c):=by unfold GW;exact .ip λ_=> .ip λ_=> .ret rfl
structure Zl (s t:qj) (c:nE) (l:List rj) (n:Int):Prop where
 up:t.up=s.up
 intact:t.intact=true
 version:t.version=s.version
 epoch:t.epoch=c.epoch
 config:t.config=c
 first:t.first=if n=3 then ((cutAt l:Nat):Int) else 0
 log:t.log=if n=3 then l.drop (cutAt l) else l
 commit:t.commit=(l.length:Int)
 learned:t.learned= []
theorem WP{s:qj}{c:nE}{id n:Int}{l:List rj}(hn:EJ c id=some (n,()))(h0:n≠0)(hl:EL l=some (true,()))(hlen:l.length<=1048576)(hv:1<=s.version/\s.version<=2)(he:0<=s.epoch/\s.epoch<=c.epoch)(hc:0<=c.epoch)(ha: ∀e∈l,e.epoch<=c.epoch)(hf:s.version=1->Fe l=some (false,())):Ev (λy=>Zl s y.1 c l n) (F9 s c id l):=by
 have e0: (n==0)=false:=beq_eq_false_iff_ne.2 h0;unfold F9;rw[hn,ao];show Ev _ (br (n==0) _ _);rw[e0,BI,hl,ao];show Ev _ ((Ei s.version 1 2).bind _);rw[EF,Ec.2 hv,ao];show Ev _ ((Ei s.epoch 0 c.epoch).bind _);rw[EF,Ec.2 he,ao];refine .bind (Ud hc ha) λy9 h9=> .br (λh=>absurd (of_decide_eq_true h) (by omega)) λ_=> ?_
 extract_lets j18
 have hj:Ev (λy=>Zl s y.1 c l n) j18:=by
  unfold j18;refine .bind (TG c) λy13 h13=> .bind (Og l) λy14 h14=> .br (λh3=> ?_) λh3=> ?_
  ·have h3:n=3:=eq_of_beq h3;rw[UI l hlen];refine .ip λ_=> .bind (Og _) λy15 h15=> .ret ⟨rfl,rfl,rfl,rfl,h13,by rw[if_pos h3],?_,rfl,rfl⟩;rw[if_pos h3];show y15.1=_;rw[h15,DC,DC];exact bW (by rw[co];omega)
  ·have h3: ¬n=3:=ne_of_beq_false h3;exact .ret ⟨rfl,rfl,rfl,rfl,h13,by rw[if_neg h3],by rw[if_neg h3];exact h14,rfl,rfl⟩
 refine .br (λh1=> ?_) λ_=>hj;rw[hf (eq_of_beq h1),ao];exact hj
structure Act0 (x y:qg) (c:nE) (M:List Int) (l:List rj):Prop where
 chosen:GK x.master=some (c,true,())
 members:EI c=some (M,())
 newer:x.master.activated≠c.epoch
 now:y.now=x.now
 sides:y.sides=x.sides
 up:y.masterUp=x.masterUp
 places:y.places=x.places
 lease:y.lease=⟨0,0,0⟩
 master:y.master=⟨x.master.configs,c.epoch⟩
 isLog:Lg x.master.activated l
 mem: ∀z∈M,∃s t n,x.servers[z.toNat]? =some s/\s.up=true/\x.sides[z.toNat]? =some 0/\EJ c z=some (n,())/\y.servers[z.toNat]? =some t/\Zl s t c l n
 rest: ∀ (j:Nat) s,x.servers[j]? =some s->(∀z∈M,z.toNat≠j)-> ∃ep,y.servers[j]? =some (Ht s ep)/\SV x.master (Ht s ep) (j:Int)
 len:y.servers.length=x.servers.length
structure Zk (x y:qg) (c:nE) (M:List Int) (l:List rj):Prop extends Act0 x y c M l where
 source:Fl x c.primary=some (l,true,())
 sealed: ∃w,EO x c.primary c.epoch=some (w,())/\ ∀ (j:Nat) s,w.servers[j]? =some s->(∀z∈M,z.toNat≠j)->y.servers[j]? =some s
theorem RH{s:qj}{id:Int}(hv:Ed s id=some (true,())):1<=s.version/\s.version<=2:=by
 unfold Ed at hv;rw[EF,ao] at hv;cases h:Gp s.version 1 2 with
 |true=>exact Ec.1 h
 |false=>rw[h] at hv;cases hv
theorem XM{l:List Int}(h:SS l){i j:Nat}{a b:Int}(hi:l[i]? =some a)(hj:l[j]? =some b)(hij:i<j):a<b:=by have hj':=C5 hj;have hi':=C5 hi;rw[aq hi'] at hi;rw[aq hj'] at hj;rw[<-Option.some.inj hi,<-Option.some.inj hj];exact DL.1 h i j hi' hj' hij
theorem VT(x:qg)(ok:Ew 1048576 x):Ev (λy=>y.2.1=0->Ea x=some (true,())/\ ∃c M l,Zk x y.1 c M l) (GC x):=by
 obtain⟨v,hv,_⟩:=Fd x ok;obtain⟨c,b,c1,_,c3⟩:=My x.master (x.master.configs.length:Int) ok.2.2.1;unfold GC;have hch:GK x.master=some (c,b,()):=by unfold GK;rw[c1];rfl
 rw[(EG x ok).1,ao,hch,ao,hv,ao];refine .brn (λev=> ?_) λ_=> .ret nofun;have ev:v=true:=ev;subst ev;have vc:=El ok hv;obtain⟨_,f2,f3⟩:=II (Ff ok.2.2.1) vc.ml;have f20:=Sz ok.2.2.1 vc.ml;refine .brn (λhb=> .br (λ_=> .ret nofun) λhne=> .br (λ_=> .ret nofun) λ_=> .ip λ_=> .bd λp _=> .brn (λ_=> .ip λ_=> .bd λ_ _=> .brn (λ_=> .bd λ_ _=> .brn (λ_=> ?_) λ_=> .ret nofun) λ_=> .ret nofun) λ_=> .ret nofun) λ_=> .ret nofun;have hb:b=true:=hb;subst hb;have hne:c.epoch≠x.master.activated:=ne_of_beq_false hne;obtain⟨c',b',q1,_,_,q4,q5,_⟩:=Im x.master (x.master.configs.length:Int) ok.2.2.1 vc.ml;rw[c1] at q1;simp only[af,au,and_true] at q1;obtain⟨rfl,rfl⟩:=q1;obtain⟨cv,ce⟩:=q5 rfl;obtain⟨_,_,_,ce1,_⟩:=Fc c3 cv;obtain⟨w,w1,_,okw,wv⟩:=Zi x ok c.primary c.epoch;obtain⟨hvw,se,W,hW⟩:=wv hv;have vcw:=El okw hvw;rw[w1,ao];refine .bd λy8 h8=> .brn (λe8=> ?_) λ_=> .ret nofun;obtain⟨L,hasL,_⟩:=y8;have e8:hasL=true:=e8;subst e8;have lg:=Yt x ok c.primary _ h8 rfl
 have Ll:L.length<=1048576:=by obtain⟨_,_,l',b',_,_,_,_,_,_,g,_,_,_,_,g2,_⟩:=RG x ok c.primary;rw[h8] at g;simp only[af,au,and_true] at g;rw[g.1];exact g2
 obtain⟨M,m1,_,m3,m4,m5,m6⟩:=Hc c c3;have mm:M.length<=maxLen:=by unfold maxLen;omega
 rw[m1,ao];have sw: ∀k,k<M.length->IntKind.wrap .i64 ((k:Int)+1)=((k+1:Nat):Int):=λk hk=>BG mm hk
 refine .bind (.count (B:=H3) (E:=Sum.elim (λe=>e.1.2.2.1=10) λe=>e.2=((fx x,fz,fc w,(c.epoch,c.primary,(),(),()),()),L,M,w.servers,w.sides,w.master.configs,w.places,c.replicas,c.witnesses,())/\ ∀j z,j<M.length->M[j]? =some z-> ∃s,x.servers[z.toNat]? =some s/\s.up=true/\x.sides[z.toNat]? =some 0)
  (λk (_:Unit)=>(((),(),(),(),(),(),(k:Int),()),(fx x,fz,fc w,(c.epoch,c.primary,(),(),()),()),L,M,w.servers,w.sides,w.master.configs,w.places,c.replicas,c.witnesses,()))
  (λk _=>k<=M.length/\ ∀j z,j<k->M[j]? =some z-> ∃s,x.servers[z.toNat]? =some s/\s.up=true/\x.sides[z.toNat]? =some 0) (λk _ hJ=> ?_) (b:=()) ⟨bM _,λj z h=>absurd h (DQ j)⟩) λe he=> ?_
 ·refine .br (λh=> .ip λ_=> .bd λz hz=> .ip λ_=> .bd λs hs=> .brn (λhu=> .ip λ_=> .bd λz2 hz2=> .ip λ_=> .bd λsd hsd=> .brn (λe0=> ?_) λ_=> .ret rfl) λ_=> .ret rfl) λh=> .ret ⟨rfl,λj z hj=>hJ.2 j z ?_⟩
  ·have hk:k<M.length:=DE.1 (of_decide_eq_true h);have hz:M[k]? =some z:=hz;obtain rfl:z2=z:=Option.some.inj ((show M[k]? =some z2 from hz2).symm.trans hz);refine .ret ⟨(),by rw[sw k hk],hk,λj z' hj hz'=> ?_⟩;by_cases hjk:j=k
   ·subst hjk;obtain rfl:=Option.some.inj (hz.symm.trans hz');exact⟨s,hs,hu,by rw[hsd,eq_of_beq e0]⟩
   ·exact hJ.2 j z' (by omega) hz'
  ·have : ¬ ((k:Int)< (M.length:Int)):=of_decide_eq_false h;omega
 cases e with
 |inl e=>exact .ret λh=>absurd ((show e.1.2.2.1=10 from he).symm.trans h) (by decide)
 |inr e=>
 obtain⟨he,hup⟩:=he;show Ev _ ((Kn (((),(),(),(),(),(),0,()),e.2)).bind _);rw[he]
 refine .bind (.count (B:=H4) (E:=Sum.elim (λe=>e.1.2.2.1=6) λe=>e.2=((fx x,fz,fc w,(c.epoch,c.primary,(),(),()),()),L,M,w.servers,w.sides,w.master.configs,w.places,c.replicas,c.witnesses,())/\ ∀j z,j<M.length->M[j]? =some z-> ∀s,x.servers[z.toNat]? =some s->s.version=1->Fe L=some (false,()))
  (λk (_:Unit)=>(((),(),(),(),(),(),(k:Int),()),(fx x,fz,fc w,(c.epoch,c.primary,(),(),()),()),L,M,w.servers,w.sides,w.master.configs,w.places,c.replicas,c.witnesses,()))
  (λk _=>k<=M.length/\ ∀j z,j<k->M[j]? =some z-> ∀s,x.servers[z.toNat]? =some s->s.version=1->Fe L=some (false,())) (λk _ hJ=> ?_) (b:=()) ⟨bM _,λj z h=>absurd h (DQ j)⟩) λe he=> ?_
 ·refine .br (λh=> .ip λ_=> .bd λz hz=> .ip λ_=> .bd λs hs=> ?_) λh=> .ret ⟨rfl,λj z hj=>hJ.2 j z ?_⟩
  ·have hk:k<M.length:=DE.1 (of_decide_eq_true h);have hz:M[k]? =some z:=hz
   have next: (s.version=1->Fe L=some (false,()))->k+1<=M.length/\ ∀j z,j<k+1->M[j]? =some z-> ∀s,x.servers[z.toNat]? =some s->s.version=1->Fe L=some (false,()):=λhn=>⟨hk,λj z' hj hz' s' hs' hv'=>by
    by_cases hjk:j=k
    ·subst hjk;obtain rfl:=Option.some.inj (hz.symm.trans hz');obtain rfl:=Option.some.inj ((show x.servers[z.toNat]? =some s from hs).symm.trans hs');exact hn hv'
    ·exact hJ.2 j z' (by omega) hz' s' hs' hv'⟩
   refine .br (λh1=> .bd λnf hnf=> .br (λ_=> .ret rfl) λh0=> .ret ⟨(),by rw[sw k hk],next λ_=> ?_⟩) λh1=> .ret ⟨(),by rw[sw k hk],next λh=>absurd h (ne_of_beq_false h1)⟩;exact (show Fe L=some nf from hnf).trans (congrArg some (Prod.ext h0 rfl))
  ·have : ¬ ((k:Int)< (M.length:Int)):=of_decide_eq_false h;omega
 cases e with
 |inl e=>exact .ret λh=>absurd ((show e.1.2.2.1=6 from he).symm.trans h) (by decide)
 |inr e=>
 obtain⟨he,hnf⟩:=he;show Ev _ ((Mj (((),(),(),(),(),(),0,()),e.2)).bind _);rw[he]
 refine .bind (.count (B:=IL) (E:=λe=> ∃S:List qj,S.length=w.servers.length/\(∀ (j:Nat) s,w.servers[j]? =some s->(∀i z,i<M.length->M[i]? =some z->z.toNat≠j)->S[j]? =some s)/\(∀i z,i<M.length->M[i]? =some z-> ∃s t n,w.servers[z.toNat]? =some s/\EJ c z=some (n,())/\S[z.toNat]? =some t/\Zl s t c L n)/\e=(((),(),(),(),()),(fx x,fz,fc w,(c.epoch,c.primary,(),(),()),()),S,w.sides,w.master.configs,w.places,c.replicas,c.witnesses,()))
  (λk (S:List qj)=>(((),(),(),(),(),(),(k:Int),()),(fx x,fz,fc w,(c.epoch,c.primary,(),(),()),()),L,M,S,w.sides,w.master.configs,w.places,c.replicas,c.witnesses,()))
  (λk S=>k<=M.length/\S.length=w.servers.length/\(∀ (j:Nat) s,w.servers[j]? =some s->(∀i z,i<k->M[i]? =some z->z.toNat≠j)->S[j]? =some s)/\ ∀i z,i<k->M[i]? =some z-> ∃s t n,w.servers[z.toNat]? =some s/\EJ c z=some (n,())/\S[z.toNat]? =some t/\Zl s t c L n) (λk S hJ=> ?_) (b:=w.servers) ⟨bM _,rfl,λ_ _ h _=>h,λi z h=>absurd h (DQ i)⟩) λe he=> ?_
 ·refine .br (λh=> .ip λ_=> .bd λz hz=> .ip λ_=> .bd λz1 hz1=> .ip λ_=> .bd λs hs=> .ip λ_=> .bd λz2 hz2=> .bd λs2 hs2=> .ip λ_=> .bd λs3 hs3=> .ip λ_=> .bd λs4 hs4=> .ip λ_=> .bd λs5 hs5=> .ip λ_=> ?_) λh=> .ret ⟨S,hJ.2.1,?_,?_,rfl⟩
  ·have hk:k<M.length:=DE.1 (of_decide_eq_true h);have hz:M[k]? =some z:=hz;obtain rfl:z1=z:=Option.some.inj ((show M[k]? =some z1 from hz1).symm.trans hz);obtain rfl:z2=z1:=Option.some.inj ((show M[k]? =some z2 from hz2).symm.trans hz);have hs:S[z2.toNat]? =some s:=hs;obtain rfl:s2=s:=Option.some.inj ((show S[z2.toNat]? =some s2 from hs2).symm.trans hs);obtain rfl:s3=s2:=Option.some.inj ((show S[z2.toNat]? =some s3 from hs3).symm.trans hs);obtain rfl:s4=s3:=Option.some.inj ((show S[z2.toNat]? =some s4 from hs4).symm.trans hs);obtain rfl:s5=s4:=Option.some.inj ((show S[z2.toNat]? =some s5 from hs5).symm.trans hs);have hzM:=aA hz;have hzr:=m4 z2 hzM
   have hws:w.servers[z2.toNat]? =some s5:=by
    have hlt:z2.toNat<w.servers.length:=by rw[vcw.len];omega
    have h2:=hJ.2.2.1 _ _ (aq hlt) (λi z' hi hz' he=>by have:=XM m5 hz' hz hi;have:=m4 z' (aA hz');omega)
    rw[aq hlt,<-h2,hs]
   have hlt:=C5 hws;have svw:=K1 okw hvw z2.toNat hlt;rw[show w.servers[z2.toNat] =s5 from by rw[aq hlt] at hws;exact Option.some.inj hws] at svw;have oks:=okw.1.2 s5 (aA hws);obtain⟨_,_,_,_,_,_,_,p1,_⟩:=FO oks svw.val;have hep:=svw.ep;rw[se.master] at hep;obtain⟨n,n1,_,n3,_⟩:=Nd c z2 c3 cv;have hn0:n≠0:=λh=>n3.1 h ((m6 cv z2).1 hzM)
   have hI:=WP (s:=s5) n1 hn0 lg.1 Ll (RH svw.val) ⟨p1,by omega⟩ (by omega) (λe he=>by have:=lg.2 e he;omega) (λh1=>by obtain⟨sx,sx1,_⟩:=HI ok vc hzr;obtain⟨ep,g1⟩:=se.srv _ _ sx1;rw[hws] at g1;exact hnf k z2 hk hz sx sx1 (by rw[Option.some.inj g1] at h1;exact h1))
   show Ev _ ((F9 ⟨s5.up,s5.intact,s5.version,s5.epoch,⟨s5.config.epoch,s5.config.primary,(s5.config.replicas.drop 0).take s5.config.replicas.length,(s5.config.witnesses.drop 0).take s5.config.witnesses.length⟩,s5.first,(s5.log.drop 0).take s5.log.length,s5.commit,(s5.learned.drop 0).take s5.learned.length⟩ ⟨c.epoch,c.primary,c.replicas,c.witnesses⟩ z2 L).bind _);rw[cE,cE,cE,cE,DK,DK,DK,DK];refine .bind hI λy hy=> .ip λ_=> .bd λ_ _=> .ret ⟨S.set z2.toNat y.1,by rw[sw k hk],hk,by rw[DI];exact hJ.2.1,λj t ht hno=> ?_,λi z' hi hz'=> ?_⟩
   ·rw[DJ (hno k z2 (cR k) hz)];exact hJ.2.2.1 j t ht λi z' hi=>hno i z' (by omega)
   ·by_cases hik:i=k
    ·subst hik;obtain rfl:=Option.some.inj (hz.symm.trans hz');exact⟨s5,y.1,n,hws,n1,DG (C5 hs),hy⟩
    ·obtain⟨a,t,n',a1,a2,a3,a4⟩:=hJ.2.2.2 i z' (by omega) hz';have:=XM m5 hz' hz (by omega);have:=m4 z' (aA hz');exact⟨a,t,n',a1,a2,by rw[DJ (by omega)];exact a3,a4⟩
  ·have : ¬ ((k:Int)< (M.length:Int)):=of_decide_eq_false h
   exactλj s hs hno=>hJ.2.2.1 j s hs λi z hi hz=>hno i z (C5 hz) hz
  ·have : ¬ ((k:Int)< (M.length:Int)):=of_decide_eq_false h
   exactλi z hi hz=>hJ.2.2.2 i z (by omega) hz
 obtain⟨S,g1,g2,g3,rfl⟩:=he
 have hac:FM x.master c.epoch=some (⟨x.master.configs,c.epoch⟩,true,()):=by unfold FM;rw[(Po x.master ok.2.2.1).1,ao,vc.ml,ao,ce,beq_self_eq_true,CY];rw[if_neg (by omega)];rfl
 show Ev _ ((FM x.master c.epoch).bind _);rw[hac,ao];refine .ret λ_=>⟨rfl,c,M,L,⟨⟨hch,m1,λh=>hne h.symm,by rw[hW],se.sides,by rw[hW],by rw[hW],rfl,rfl,lg,λz hz=> ?_,λj s hs hno=> ?_,?_⟩,h8,⟨w,w1,λj s hs hno=>g2 j s hs λi z _ hz=>hno z (aA hz)⟩⟩⟩
 ·obtain⟨i,hi,rfl⟩:=aU hz;have hg:M[i]? =some M[i] :=aq hi;obtain⟨s,s1,s2,s3⟩:=hup i _ hi hg;obtain⟨s',t,n,t1,t2,t3,t4⟩:=g3 i _ hi hg;obtain⟨ep,u1⟩:=se.srv _ _ s1;rw[t1] at u1;have u1:=Option.some.inj u1;exact⟨s,t,n,s1,s2,s3,t2,t3,t4.up.trans (by rw[u1]),t4.intact,t4.version.trans (by rw[u1]),t4.epoch,t4.config,t4.first,t4.log,t4.commit,t4.learned⟩
 ·obtain⟨ep,u1⟩:=se.srv _ _ hs;refine⟨ep,g2 j _ u1 λi z _ hz=>hno z (aA hz),?_⟩;have hlt:=C5 u1;have svw:=K1 okw hvw j hlt;rw[aq hlt] at u1;rw[Option.some.inj u1,se.master] at svw;exact svw
 ·show S.length=x.servers.length;rw[g1,vcw.len,vc.len]
end
section
theorem QI{l:List rj}(hl:l.length<=maxLen)(h:EL l=some (true,()))(n:Nat):EL (l.drop n)=some (true,()):=by
 obtain⟨h1,h2⟩:=(IT l hl).1 h;refine (IT _ (by rw[co];omega)).2 ⟨by rw[co];omega,λk hk=> ?_⟩;rw[co] at hk;have h3:=h2 (n+k) (by omega);unfold Q7 at h3 ⊢;rw[bf];cases k with
 |zero=>rw[bH] at h3 ⊢;rw[aq (by omega)] at h3 ⊢;simp at h3 ⊢;exact⟨h3.1,h3.2.1⟩
 |succ k=>rw[bf,show n+(k+1)-1=n+k from by omega,aq (by omega),aq (by omega)] at*;simp at h3 ⊢;exact h3
theorem ZF{m:jY}(hl:m.configs.length<=maxLen)(h: ∀k (hk:k<m.configs.length),Eg m.configs[k] =some (true,())/\m.configs[k].epoch=(k:Int)+1)(ha:0<=m.activated/\m.activated<=(m.configs.length:Int)):Eo m=some (true,()):=by
 refine Tt.tru ?_;unfold Eo;refine .bind (.count (B:=EW) (E:=Sum.elim (λ_=>False) λe=>e.2.1.1=(m.configs,m.activated,())) m.configs.length (λk (_:Unit)=>(((),(k:Int),()),((m.configs,m.activated,()),()),())) (λ_ _=>True) (λ_ _=> .end (DH _) (.ret rfl)) (λk _ hk _=> .go (DE.2 hk) (.ip (DD k) ?_)) () trivial) λe he=> ?_
 ·have sw:=BG hl hk;have hk2:=h k hk;have hg:m.configs[k]? =some m.configs[k] :=aq hk;generalize m.configs[k] =c at hg hk2;refine .get (tn hk) λc' hc' _=> ?_;obtain rfl:c'=c:=Option.some.inj ((show m.configs[k]? =some c' from hc').symm.trans hg);refine .bind (Q:=λy=>y.1=true) ⟨_,hk2.1,rfl⟩ λy hy=> .br (λh=>by rw[hy] at h;cases h) λ_=> .ip (DD k) (.get (tn hk) λd hd _=> .br (λhn=> ?_) λ_=> .ret ⟨(),by rw[sw],trivial⟩);obtain rfl:d=c':=Option.some.inj ((show m.configs[k]? =some d from hd).symm.trans hg);have hn: (!(d.epoch==IntKind.wrap .i64 ((k:Int)+1)))=true:=hn;rw[sw,hk2.2] at hn;simp at hn
 ·cases e with
  |inl e=>exact he.elim
  |inr e=>show Tt _ ((Ei e.2.1.1.2.1 0 (e.2.1.1.1.length:Int)).bind _);rw[show e.2.1.1=_ from he,EF,Ec.2 ha];exact .ret rfl
theorem Su{m:jY}(ok:NZ 1048576 m)(hv:Eo m=some (true,())){a:Int}(hv':Eo ⟨m.configs,a⟩=some (true,()))(e:Int):Fm ⟨m.configs,a⟩ e=Fm m e:=by unfold Fm;rw[hv,hv']
theorem QE{x:qg}(ok:Ew 1048576 x)(hn:0<=x.now/\x.now<=999)(h5:x.servers.length=5)(hs:Fj x.sides=some (true,()))(hm:Eo x.master=some (true,()))(hu:0<=x.masterUp/\x.masterUp<=3)(hl:FF x.lease=some (true,()))(hp:ES x.places=some (true,()))(he:x.lease.epoch<=x.master.activated)(hS: ∀k (hk:k<x.servers.length),SV x.master x.servers[k] (k:Int)):Ea x=some (true,()):=by
 rcases TD x ok with ⟨_,h1⟩| ⟨⟨k,hk,h0⟩,_⟩
 ·unfold Ea;rw[h1];simp only[EF,Ec.2 hn,h5,hs,hm,Ec.2 hu,hl,hp,ao,Eb,CG,CY,if_neg (show ¬x.lease.epoch>x.master.activated by omega)];rfl
 ·exact absurd (hS k hk) h0
theorem Nr{c:nE}(h:1<=c.epoch):c≠⟨0,0,[],[]⟩:=λe=>by rw[e] at h;exact absurd h (by decide)
theorem WO{s t:qj}{c:nE}{l:List rj}{n z:Int}(okt:ED 1048576 t)(h:Zl s t c l n)(hn:EJ c z=some (n,()))(h0:n≠0)(hl:EL l=some (true,()))(hlen:l.length<=maxLen)(hv:1<=s.version/\s.version<=2)(hc:1<=c.epoch/\c.epoch<=20)(ha: ∀e∈l,e.epoch<=c.epoch):Ed t z=some (true,()):=by
 have h16:=((IT l hlen).1 hl).1;have hcut:cutAt l<=l.length:=Nat.sub_le _ _
 have tlog:EL t.log=some (true,()):=by
  rw[h.log];split
  ·exact QI hlen hl _
  ·exact hl
 have tlen:t.first+(t.log.length:Int)=(l.length:Int)/\0<=t.first/\t.first<=16:=by
  rw[h.first,h.log];split
  ·rw[co];omega
  ·omega
 obtain⟨e,e1,_⟩:=GU t.log (Em okt.2.1)
 have he:e<=c.epoch:=(Ud (by omega) (λx hx=>ha x (by
  rw[h.log] at hx;split at hx
  ·exact bE hx
  ·exact hx))) _ e1
 have hcv:=Ee okt.1;unfold Ed;rw[vM (n:=t.first+(t.log.length:Int)) (by omega) (by omega),tlen.1,h.learned,N7,tlog,h.version,h.epoch,h.commit,Ih t.config hcv,h.config,hn,h.intact,e1];simp only[EF,Ec.2 hv,Ec.2 (show 0<=c.epoch/\c.epoch<=20 by omega),Ec.2 tlen.2,Ec.2 (show 0<=(l.length:Int)/\(l.length:Int)<=16 by omega),Ec.2 (show 0<=(l.length:Int)/\(l.length:Int)<=(l.length:Int) by omega),ao,Eb,CG,CY,if_neg (Nr hc.1),if_neg (show ¬c.epoch<c.epoch by omega),if_neg (show ¬e>c.epoch by omega),show (n==0)=false from beq_eq_false_iff_ne.2 h0,BI];by_cases h3:n=3
 ·have hf:t.first=((cutAt l:Nat):Int):=by rw[h.first,if_pos h3]
  have hg: (t.log.length:Int)=(l.length:Int)-((cutAt l:Nat):Int):=by omega
  rw[show (n==3)=true from beq_iff_eq.2 h3,CG,if_pos (by rw[hg];unfold cutAt;omega),G2];split
  ·rfl
  ·next hne=>
   rw[hf];have :cutAt l=0:=by unfold cutAt at*;omega
   rw[this];rfl
 ·have hf:t.first=0:=by rw[h.first,if_neg h3]
  rw[show (n==3)=false from beq_eq_false_iff_ne.2 h3,BI,hf];rfl
theorem Act0.cfg{x y:qg}{c:nE}{M:List Int}{l:List rj}(ok:Ew 1048576 x)(hv:Ea x=some (true,()))(h:Act0 x y c M l):Gc maxLen c/\Eg c=some (true,())/\c.epoch=(x.master.configs.length:Int)/\x.master.activated<c.epoch/\Eo y.master=some (true,())/\Fm y.master c.epoch=some (c,true,())/\(∀z∈M,0<=z/\z<5)/\(∀z,z∈M↔z∈c.replicas\/z∈c.witnesses):=by
 have vc:=El ok hv;obtain⟨f1,f2,f3⟩:=II (Ff ok.2.2.1) vc.ml;obtain⟨c',b',q1,_,q3,_,q5,_⟩:=Im x.master (x.master.configs.length:Int) ok.2.2.1 vc.ml;have hch:=h.chosen;unfold GK at hch;rw[q1] at hch;simp only[ao,af,au,and_true] at hch;obtain⟨rfl,rfl⟩:=hch;obtain⟨cv,ce⟩:=q5 rfl;have hne:=h.newer
 have hm:Eo y.master=some (true,()):=by rw[h.master];exact ZF (Ff ok.2.2.1).1 f1 ⟨by show 0<=c'.epoch;omega,by show c'.epoch<=(x.master.configs.length:Int);omega⟩
 obtain⟨M',m1,_,_,m4,_,m6⟩:=Hc c' q3;obtain rfl:M'=M:=(Prod.mk.inj (Option.some.inj (m1.symm.trans h.members))).1;refine⟨q3,cv,ce,by omega,hm,?_,m4,m6 cv⟩;rw[h.master] at hm ⊢;rw[Su ok.2.2.1 vc.ml hm,ce];exact q1
theorem WA{x y:qg}{c:nE}{M:List Int}{l:List rj}(ok:Ew 1048576 x)(hv:Ea x=some (true,()))(oky:Ew 1048576 y)(hl:l.length<=maxLen)(h:Act0 x y c M l):Ea y=some (true,()):=by
 have vc:=El ok hv;obtain⟨c3,cv,ce,ca,hm,hat,m4,m6⟩:=h.cfg ok hv;obtain⟨_,_,_,e1,e20,_⟩:=Fc c3 cv;have hcfg:y.master.configs=x.master.configs:=by rw[h.master]
 have hact:y.master.activated=c.epoch:=by rw[h.master]
 refine QE oky (by rw[h.now];exact vc.now) (by rw[h.len];exact vc.len) (by rw[h.sides];exact vc.sides) hm (by rw[h.up];exact vc.up) (by rw[h.lease];rfl) (by rw[h.places];exact vc.places) (by rw[h.lease,hact];show (0:Int)<=_;omega) λk hk=> ?_;have hk':k<x.servers.length:=by rw[<-h.len];exact hk
 have sv:=K1 ok hv k hk';by_cases hM: ∃z∈M,z.toNat=k
 ·obtain⟨z,hz,rfl⟩:=hM;obtain⟨s,t,n,s1,_,_,n1,t1,hI⟩:=h.mem z hz;have hz4:=m4 z hz;have ez: ((z.toNat:Nat):Int)=z:=by omega
  rw[aq hk] at t1;rw[Option.some.inj t1,ez];rw[aq hk'] at s1;rw[Option.some.inj s1] at sv;have okt:ED 1048576 t:=Option.some.inj t1 ▸ oky.1.2 _ (DF hk);obtain⟨n',n1',_,n3,_⟩:=Nd c z c3 cv;obtain rfl:n'=n:=(Prod.mk.inj (Option.some.inj (n1'.symm.trans n1))).1;refine⟨WO okt hI n1 (λh0=>n3.1 h0 ((m6 z).1 hz)) h.isLog.1 hl (RH sv.val) ⟨e1,e20⟩ λe he=>by have:=h.isLog.2 e he;omega,by rw[hI.epoch,hcfg];omega,⟨0,by rw[hI.learned];rfl,by rw[hact];omega⟩,.inr ?_⟩;rw[hI.config,hact];exact⟨hat,cU _⟩
 ·obtain⟨ep,t1,svw⟩:=h.rest k _ (aq hk') λz hz e=>hM ⟨z,hz,e⟩;rw[aq hk] at t1;rw[Option.some.inj t1];obtain⟨n,n1,n2⟩:=svw.lrn;refine⟨svw.val,by rw[hcfg];exact svw.ep,⟨n,n1,by rw[hact];omega⟩,svw.cfg.imp id λhc=>⟨?_,by rw[hact];have:=hc.2;omega⟩⟩;rw[h.master] at hm ⊢;rw[Su ok.2.2.1 vc.ml hm];exact hc.1
structure Srv (y:qg) (c:nE) (M:List Int) (t:qj):Prop where
 act:Ef y.master=some (c,true,())
 mem:EI c=some (M,())
 at':y.servers[c.primary.toNat]? =some t
 now:Er t c.primary=some (true,())
 ep:t.config.epoch=c.epoch
 rng:0<=c.primary/\c.primary<5
 hear: ∀z∈M,FK y c.primary z=some (true,())
end
section
structure Vs (s:qj) (id n:Int):Prop where
 ver:1<=s.version/\s.version<=2
 ep:0<=s.epoch/\s.epoch<=20
 log:EL s.log=some (true,())
 lrn:EL s.learned=some (true,())
 first:0<=s.first/\s.first<=16
 len:s.first+(s.log.length:Int)<=16
 commit:0<=s.commit/\s.commit<=s.first+(s.log.length:Int)
 cfg:s.config≠⟨0,0,[],[]⟩
 intact:s.intact=true
 le:s.config.epoch<=s.epoch
 all: ∀e∈s.log,e.epoch<=s.config.epoch
 role:EJ s.config id=some (n,())
 in':n≠0
 wit:n=3->s.log.length<=3/\(s.log.length=3\/s.first=0)
 rep:n≠3->s.first=0
theorem XL{s:qj}{id n:Int}(ok:ED 1048576 s)(h:Vs s id n)(h0:0<=s.config.epoch):Ed s id=some (true,()):=by
 obtain⟨e,e1,_⟩:=GU s.log (Em ok.2.1);have he:e<=s.config.epoch:=Ud h0 h.all _ e1;have hf:=h.first;have hl:=h.len;have hle:=h.le;unfold Ed;rw[vM (n:=s.first+(s.log.length:Int)) (by omega) (by omega),h.log,h.lrn,Ih s.config (Ee ok.1),h.role,h.intact,e1];simp only[EF,Ec.2 h.ver,Ec.2 h.ep,Ec.2 hf,Ec.2 (show 0<=s.first+(s.log.length:Int)/\s.first+(s.log.length:Int)<=16 by omega),Ec.2 h.commit,ao,Eb,CG,CY,if_neg h.cfg,if_neg (show ¬s.epoch<s.config.epoch by omega),if_neg (show ¬e>s.config.epoch by omega),show (n==0)=false from beq_eq_false_iff_ne.2 h.in',BI];by_cases h3:n=3
 ·obtain⟨w1,w2⟩:=h.wit h3;rw[show (n==3)=true from beq_iff_eq.2 h3,CG,if_pos (by omega),G2];split
  ·rfl
  ·next hne=>rw[w2.resolve_left (by omega)];rfl
 ·rw[show (n==3)=false from beq_eq_false_iff_ne.2 h3,BI,h.rep h3];rfl
theorem OD{s:qj}{id:Int}(ok:ED 1048576 s)(hv:Ed s id=some (true,()))(hc:s.config≠⟨0,0,[],[]⟩): ∃n,Vs s id n:=by
 have hcc:=Ee ok.1;obtain⟨f1,f2,f3,f4,f5,f6,f7,f8,f9⟩:=FO ok hv;have hle:=XK ok hv;have hall:=Vq ok hv;have hver:=RH hv;obtain⟨e,e1,_⟩:=GU s.log (Em ok.2.1);obtain⟨n,n1,_⟩:=KU s.config id hcc;have no: ∀ {P:Prop},some (false,())=some (true,())->P:=λh=>by cases h
 unfold Ed at hv;rw[vM (n:=s.first+(s.log.length:Int)) (by omega) (by omega)] at hv;simp only[EF,f6,f7,Ih s.config hcc,decide_eq_false hc,n1,e1,ao,Eb,CG,BI] at hv;refine Mw hv (λ_ hv=>Mw hv (λ_ hv=>Mw hv (λ_ hv=>Mw hv (λhw hv=>Mw hv (λ_ hv=>Mw hv (λhi hv=>Mw hv (λ_ h=>no h) λ_ hv=>Mw hv (λ_ h=>no h) λ_ hv=>Mw hv (λ_ h=>no h) λhn0 hv=> ?_) λ_ h=>no h) λ_ h=>no h) λ_ h=>no h) λ_ h=>no h) λ_ h=>no h) λ_ h=>no h;have hw:=Ec.1 hw;refine⟨n,hver,⟨f8,f9⟩,f6,f7,⟨f1,f2⟩,hw.2,⟨f4,f5⟩,hc,hi,hle,hall,n1,ne_of_beq_false hn0,λh3=> ?_,λh3=> ?_⟩
 ·rw[show (n==3)=true from beq_iff_eq.2 h3,CG] at hv;refine Mw (x:=_) hv (λhl hv=>Mw hv (λh3l _=>⟨?_,.inl ?_⟩) λ_ hv=>⟨?_,.inr ?_⟩) λ_ h=>no h
  ·have : (s.log.length:Int)<=3:=of_decide_eq_true hl;omega
  ·have : (s.log.length:Int)=3:=eq_of_beq h3l;omega
  ·have : (s.log.length:Int)<=3:=of_decide_eq_true hl;omega
  ·exact eq_of_beq (Prod.mk.inj (Option.some.inj hv)).1
 ·rw[show (n==3)=false from beq_eq_false_iff_ne.2 h3,BI] at hv;exact eq_of_beq (Prod.mk.inj (Option.some.inj hv)).1
abbrev G1(w:qj)(l:List rj)(n:Int):qj:=if n=3 then ⟨w.up,w.intact,w.version,w.epoch,w.config,((cutAt l:Nat):Int),l.drop (cutAt l),w.commit,w.learned⟩ else ⟨w.up,w.intact,w.version,w.epoch,w.config,w.first,l,w.commit,w.learned⟩
structure Pu (x y:qg) (id m:Int):Prop where
 valid:Ea x=some (true,())
 rid:0<=id/\id<5
 rm:0<=m/\m<5
 ex: ∃u w n,x.servers[id.toNat]? =some u/\Er u id=some (true,())/\x.servers[m.toNat]? =some w/\FK x id m=some (true,())/\EJ u.config m=some (n,())/\(∃M,EI u.config=some (M,())/\m∈M)/\y=K2 x (x.servers.set m.toNat (G1 w u.log n))
theorem aao(x:qg)(ok:Ew 1048576 x)(id m:Int):Ev (λy=>(y.2.1=false/\y.1=x)\/(y.2.1=true/\Pu x y.1 id m)) (F0 x id m):=by
 obtain⟨b,b1,_,b2⟩:=J9 x ok id;have bad:Ev (λy:qg×Bool×Unit=>(y.2.1=false/\y.1=x)\/(y.2.1=true/\Pu x y.1 id m)) (some (x,false,())):=.ret (.inl ⟨rfl,rfl⟩);unfold F0;rw[(EG x ok).1,ao,b1,ao];refine .brn (λe=> ?_) λ_=>bad;obtain⟨hv,h0,h5,hp⟩:=b2 e;have vc:=El ok hv;refine .ip λ_=> .bd λs hs=> .bd λy hy=> ?_;obtain⟨s',s1,s2,s3⟩:=HI ok vc ⟨h0,h5⟩;obtain rfl:s'=s:=Option.some.inj (s1.symm.trans hs);obtain⟨M,m1,_,m3,m4,_,_⟩:=Hc s'.config (Ee s2.1);obtain rfl:y=(M,()):=Option.some.inj (hy.symm.trans m1);rw[(Ey M m (by unfold maxLen;omega)).1,ao];refine .brn (λhm=> ?_) λ_=>bad;have hmM:m∈M:=of_decide_eq_true hm;have hm:=m4 m hmM;refine .bd λh6 hh6=> .brn (λe6=> .ip λ_=> .bd λt ht=> .ip λ_=> .bd λu hu=> .bd λr hr=> ?_) λ_=>bad;obtain rfl:t=s':=Option.some.inj ((show x.servers[id.toNat]? =some t from ht).symm.trans s1);obtain rfl:u=t:=Option.some.inj ((show x.servers[id.toNat]? =some u from hu).symm.trans s1);have hh:FK x id m=some (true,()):=(show FK x id m=some h6 from hh6).trans (congrArg some (Prod.ext e6 rfl));have hr:EJ u.config m=some (r.1,()):=hr;refine .br (λh3=> ?_) λh3=> ?_
 ·have h3:r.1=3:=eq_of_beq h3;rw[RD u.log s2.2.1 (FO s2 s3).2.2.2.2.2.1,ao];refine .ip λ_=> .ip λ_=> .bd λw hw=> .bd λw' hw'=> .ret (.inr ⟨rfl,hv,⟨h0,h5⟩,hm,u,w,r.1,s1,hp u s1,hw,hh,hr,⟨M,m1,hmM⟩,?_⟩);have hw:x.servers[m.toNat]? =some w:=hw;have hw': (x.servers.set m.toNat (⟨w.up,w.intact,w.version,w.epoch,w.config,((cutAt u.log:Nat):Int),w.log,w.commit,w.learned⟩:qj))[m.toNat]? =some w':=hw';rw[DG (C5 hw)] at hw';obtain rfl:=Option.some.inj hw';show (⟨x.now,(x.servers.set m.toNat _).set m.toNat _,x.sides,x.master,x.masterUp,x.lease,x.places⟩:qg)=_;rw[List.set_set,show G1 w u.log r.1=_ from if_pos h3]
 ·have h3: ¬r.1=3:=ne_of_beq_false h3;refine .bind (Og _) λy15 h15=> .ip λ_=> .bd λw hw=> .ret (.inr ⟨rfl,hv,⟨h0,h5⟩,hm,u,w,r.1,s1,hp u s1,hw,hh,hr,⟨M,m1,hmM⟩,?_⟩);rw[show G1 w u.log r.1=_ from if_neg h3];show (⟨x.now,x.servers.set m.toNat _,x.sides,x.master,x.masterUp,x.lease,x.places⟩:qg)=_;rw[h15]
theorem UP{x:qg}(ok:Ew 1048576 x)(vc:VC x){a b:Int}(ha:0<=a/\a<5)(hb:0<=b/\b<5)(h:FK x a b=some (true,())){p q:qj}(hp:x.servers[a.toNat]? =some p)(hq:x.servers[b.toNat]? =some q):q.up=true/\q.epoch=p.epoch/\q.commit<=(p.log.length:Int)/\q.config=p.config/\G3 x a=G3 x b:=by rw[(Z6 x ok vc ha hb).1] at h;have h:=(Prod.mk.inj (Option.some.inj h)).1;unfold SO at h;rw[hp,hq] at h;simp at h;exact⟨h.2.1.1.1,h.2.1.1.2,h.2.1.2,h.2.2,h.1⟩
theorem ZM{w u:qj}{m n:Int}(h:Vs w m n)(hl:EL u.log=some (true,()))(h16:u.log.length<=16)(hc:w.commit<=(u.log.length:Int))(ha: ∀e∈u.log,e.epoch<=w.config.epoch):Vs (G1 w u.log n) m n:=by
 have hcut:cutAt u.log<=u.log.length:=Nat.sub_le _ _;have hcut3:cutAt u.log=u.log.length-3:=rfl;have hm:u.log.length<=maxLen:=by unfold maxLen;omega
 unfold G1;split
 ·next h3=>have ld: (u.log.drop (cutAt u.log)).length=u.log.length-cutAt u.log:=co;exact⟨h.ver,h.ep,QI hm hl _,h.lrn,by show 0<=((cutAt u.log:Nat):Int)/\((cutAt u.log:Nat):Int)<=16;omega,by show ((cutAt u.log:Nat):Int)+((u.log.drop (cutAt u.log)).length:Int)<=16;omega,⟨h.commit.1,by show w.commit<=((cutAt u.log:Nat):Int)+((u.log.drop (cutAt u.log)).length:Int);omega⟩,h.cfg,h.intact,h.le,λe he=>ha e (bE he),h.role,h.in',λ_=>⟨by show (u.log.drop (cutAt u.log)).length<=3;omega,by show (u.log.drop (cutAt u.log)).length=3\/((cutAt u.log:Nat):Int)=0;omega⟩,λhn=>absurd h3 hn⟩
 ·next h3=>have hf:=h.rep h3;exact⟨h.ver,h.ep,hl,h.lrn,h.first,by show w.first+(u.log.length:Int)<=16;omega,⟨h.commit.1,by show w.commit<=w.first+(u.log.length:Int);omega⟩,h.cfg,h.intact,h.le,ha,h.role,h.in',λhn=>absurd hn h3,h.rep⟩
theorem Wq{x y:qg}(ok:Ew 1048576 x){id m:Int}(h:Pu x y id m):Ew 1048576 y/\Ea y=some (true,()):=by
 obtain⟨u,w,n,u1,u2,w1,w2,n1,_,rfl⟩:=h.ex;have vc:=El ok h.valid;obtain⟨g1,g2,g3,g4,_⟩:=UP ok vc h.rid h.rm w2 u1 w1;have sv:=K1 ok h.valid;have lu:=C5 u1;have lw:=C5 w1;have eu:x.servers[id.toNat] =u:=by rw[aq lu] at u1;exact Option.some.inj u1
 have ew:x.servers[m.toNat] =w:=by rw[aq lw] at w1;exact Option.some.inj w1
 have su:=sv id.toNat lu;have sw:=sv m.toNat lw;have zi: ((id.toNat:Nat):Int)=id:=by have:=h.rid;omega
 have zm: ((m.toNat:Nat):Int)=m:=by have:=h.rm;omega
 rw[eu,zi] at su;rw[ew,zm] at sw;have oku:=ok.1.2 u (aA u1);have okw:=ok.1.2 w (aA w1);have pf:=Hk oku u2;obtain⟨_,_,_,ce1,_⟩:=Fc (Ee oku.1) pf.1;obtain⟨f1,f2,f3,f4,f5,f6,_⟩:=FO oku su.val;obtain⟨n',hv⟩:=OD okw sw.val (by rw[g4];exact Nr ce1)
 obtain rfl:n'=n:=by have:=hv.role;rw[g4,n1] at this;exact (Prod.mk.inj (Option.some.inj this)).1.symm
 have hvs:=ZM (u:=u) hv f6 f3 g3 λe he=>by rw[g4];exact Vq oku su.val e he
 have okv:ED 1048576 (G1 w u.log n'):=by
  have hu:=oku.2.1;unfold G1;split
  ·exact⟨okw.1,by show List.length _<=_;rw[co];omega,okw.2.2⟩
  ·exact⟨okw.1,hu,okw.2.2⟩
 have hcfg: (G1 w u.log n').config=w.config:=by unfold G1;split<;>rfl
 have hep: (G1 w u.log n').epoch=w.epoch:=by unfold G1;split<;>rfl
 have hlr: (G1 w u.log n').learned=w.learned:=by unfold G1;split<;>rfl
 refine PS ok h.valid _ DI (λt ht=>(cX ht).elim (ok.1.2 t) λe=>e ▸ okv) λk hk=> ?_;rw[D8];split
 ·next e=>subst e;rw[zm];exact⟨XL okv hvs (by rw[hcfg,g4];omega),by rw[hep];exact sw.ep,by rw[hlr];exact sw.lrn,by rw[hcfg];exact sw.cfg⟩
 ·exact sv k (by rw[DI] at hk;exact hk)
structure Ck (x y:qg):Prop where
 now:y.now=x.now
 sides:y.sides=x.sides
 master:y.master=x.master
 mup:y.masterUp=x.masterUp
 lease:y.lease=x.lease
 places:y.places=x.places
 len:y.servers.length=x.servers.length
 srv: ∀ (j:Nat) s,x.servers[j]? =some s-> ∃t,y.servers[j]? =some t/\t.up=s.up/\t.version=s.version/\t.epoch=s.epoch/\t.config=s.config/\t.commit=s.commit/\t.learned=s.learned
theorem Ck.self(x:qg):Ck x x:=⟨rfl,rfl,rfl,rfl,rfl,rfl,rfl,λ_ s h=>⟨s,h,rfl,rfl,rfl,rfl,rfl,rfl⟩⟩
theorem Ck.trans{x y z:qg}(h:Ck x y)(k:Ck y z):Ck x z:=⟨k.now.trans h.now,k.sides.trans h.sides,k.master.trans h.master,k.mup.trans h.mup,k.lease.trans h.lease,k.places.trans h.places,k.len.trans h.len,λj s hs=>by obtain⟨t,t1,a1,a2,a3,a4,a5,a6⟩:=h.srv j s hs;obtain⟨u,u1,b1,b2,b3,b4,b5,b6⟩:=k.srv j t t1;exact⟨u,u1,b1.trans a1,b2.trans a2,b3.trans a3,b4.trans a4,b5.trans a5,b6.trans a6⟩⟩
theorem Vi{x y:qg}{id m:Int}(h:Pu x y id m):Ck x y:=by
 obtain⟨u,w,n,u1,u2,w1,w2,n1,_,rfl⟩:=h.ex;refine⟨rfl,rfl,rfl,rfl,rfl,rfl,DI,λj s hs=> ?_⟩;by_cases hj:m.toNat=j
 ·subst hj;obtain rfl:w=s:=Option.some.inj (w1.symm.trans hs);refine⟨G1 w u.log n,DG (C5 w1),?_⟩;unfold G1;split<;>exact⟨rfl,rfl,rfl,rfl,rfl,rfl⟩
 ·exact⟨s,(DJ hj).trans hs,rfl,rfl,rfl,rfl,rfl,rfl⟩
theorem Xx{x y:qg}(ok:Ew 1048576 x){id m:Int}(h:Pu x y id m){p:qj}(hp:x.servers[id.toNat]? =some p):y.servers[id.toNat]? =some p:=by
 obtain⟨u,w,n,u1,u2,w1,w2,n1,_,rfl⟩:=h.ex;obtain rfl:p=u:=Option.some.inj (hp.symm.trans u1);show (x.servers.set m.toNat (G1 w p.log n))[id.toNat]? =some p;by_cases hj:m.toNat=id.toNat
 ·have e:m=id:=by have:=h.rm;have:=h.rid;omega
  subst e;obtain rfl:w=p:=Option.some.inj (w1.symm.trans u1);have okp:=ok.1.2 w (aA u1);have pf:=Hk okp u2;obtain⟨n',n1',_,_,n4⟩:=Nd w.config m (Ee okp.1) pf.1;obtain rfl:n'=n:=(Prod.mk.inj (Option.some.inj (n1'.symm.trans n1))).1;have h3: ¬n'=3:=λh=>n4 h pf.2;rw[DG (C5 w1)];unfold G1;rw[if_neg h3]
 ·rw[DJ hj];exact hp
end
section
def Rl(S T:List qj):Prop:=T.length=S.length/\ ∀ (j:Nat) s,S[j]? =some s-> ∃t,T[j]? =some t/\t.up=s.up/\t.version=s.version/\t.epoch=s.epoch/\t.config=s.config/\t.learned=s.learned/\t.first=s.first/\t.log=s.log
theorem Rl.set{S T:List qj}(h:Rl S T){i:Nat}{q:qj}(hq:T[i]? =some q)(n:Int):Rl S (T.set i ⟨q.up,q.intact,q.version,q.epoch,q.config,q.first,q.log,n,q.learned⟩):=
 ⟨by rw[DI];exact h.1,λj s hs=>by
  obtain⟨t,t1,t2⟩:=h.2 j s hs;by_cases hj:i=j
  ·subst hj;obtain rfl:t=q:=Option.some.inj (t1.symm.trans hq);exact⟨_,DG (C5 hq),t2⟩
  ·exact⟨t,by rw[DJ hj];exact t1,t2⟩⟩
theorem YB{x:qg}(ok:Ew 1048576 x)(hv:Ea x=some (true,())){c:nE}(hc:Ef x.master=some (c,true,())){k:Nat}{p:qj}(hp:x.servers[k]? =some p)(he:p.config.epoch=c.epoch):p.config=c:=by
 obtain⟨c',b',d1,_,d3,_,d5,_⟩:=F6 x ok hv;rw[hc] at d1;simp only[af,au,and_true] at d1;obtain⟨rfl,rfl⟩:=d1;obtain⟨cv,ce⟩:=d5 rfl;obtain⟨_,_,_,e1,_⟩:=Fc d3 cv;have hlt:=C5 hp;have sv:=K1 ok hv k hlt;rw[aq hlt] at hp;rw[Option.some.inj hp] at sv;rcases sv.cfg with h| ⟨h,_⟩
 ·rw[h] at he;have : (0:Int)=c.epoch:=he;omega
 ·unfold Ef at hc;rw[he,ce] at h;rw[h,ao] at hc;simp only[af,au,and_true] at hc;exact hc
theorem Xw(x:qg)(ok:Ew 1048576 x)(n:nE):Ev (λy=>y.1=x\/(Ea x=some (true,())/\Eg n=some (true,())/\n.epoch=(x.master.configs.length:Int)+1/\y.1=⟨x.now,x.servers,x.sides,⟨x.master.configs++ [n],x.master.activated⟩,x.masterUp,x.lease,x.places⟩)) (FQ x n):=by
 unfold FQ;rw[(EG x ok).1,ao];refine .bd λv hv=> .brn (λev=> .br (λ_=> .ret (.inl rfl)) λ_=> ?_) λ_=> .ret (.inl rfl);have hv:Ea x=some (true,()):=hv.trans (congrArg some (Prod.ext ev rfl));have vc:=El ok hv;have hml:=Sz ok.2.2.1 vc.ml
 have pc:Ev (λy=>y.2.1=true->Eg n=some (true,())/\n.epoch=(x.master.configs.length:Int)+1/\y.1=⟨x.master.configs++ [n],x.master.activated⟩) (GF x.master n):=by unfold GF;rw[(Po x.master ok.2.2.1).1,ao];refine .bd λ_ _=> .brn (λ_=> .bd λw hw=> .brn (λew=> .brn (λee=> .bind (TG n) λy hy=> .ip λ_=> .ret λ_=>⟨hw.trans (congrArg some (Prod.ext ew rfl)),?_,by rw[hy]⟩) λ_=> .ret nofun) λ_=> .ret nofun) λ_=> .ret nofun;rw[eq_of_beq ee,vM (by omega) (by omega)]
 refine .bind pc λy hy=> .brn (λe=> .ret (.inr ⟨hv,(hy e).1,(hy e).2.1,?_⟩)) λ_=> .ret (.inl rfl);rw[(hy e).2.2]
def Cd(x:qg)(e id z:Int):Prop:=∃s,x.servers[z.toNat]? =some s/\s.up=true/\s.config.epoch=e/\EK x.sides id z=some (true,())
theorem VZ(L:List nE)(n:nE)(act e:Int)(hl:L.length<=100)(h1:Eo ⟨L,act⟩=some (true,()))(h2:Eo ⟨L++ [n],act⟩=some (true,()))(he:1<=e/\e<=(L.length:Int)):Fm ⟨L++ [n],act⟩ e=Fm ⟨L,act⟩ e:=by unfold Fm;rw[h1,h2];simp only[EF,Ec.2 he,Ec.2 (show 1<=e/\e<=(((L++ [n]).length:Nat):Int) by rw[bJ,cy];omega),ao,Eb,CG];rw[vM (by omega) (by omega),aW (by omega)]
end
section
def ZY(l:List rj):Prop:=∀ (i j:Nat) a b,l[i]? =some a->l[j]? =some b->a.op.client=b.op.client->a.op.seq=b.op.seq->i=j
def Pf(a b:List rj):Prop:=∀ (i:Nat) e,a[i]? =some e->b[i]? =some e
theorem Pf.refl(a:List rj):Pf a a:=λ_ _ h=>h
theorem Pf.trans{a b c:List rj}(h:Pf a b)(k:Pf b c):Pf a c:=λi e hi=>k i e (h i e hi)
theorem Pf.nil(a:List rj):Pf [] a:=λi e h=>by simp at h
theorem Pf.len{a b:List rj}(h:Pf a b):a.length<=b.length:=by
 rcases bn a.length with h0|h0
 ·omega
 ·have h1:=h (a.length-1) _ (aq (by omega));have:=C5 h1;omega
theorem Pf.dst{a b:List rj}(h:Pf a b)(d:ZY b):ZY a:=λi j x y hi hj=>d i j x y (h i x hi) (h j y hj)
theorem Pf.app(a b:List rj):Pf a (a++b):=λi e h=>by rw[aW (C5 h)];exact h
theorem X3{l:List rj}{e:rj}(d:ZY l)(h: ∀x∈l,¬ (x.op.client=e.op.client/\x.op.seq=e.op.seq)):ZY (l++ [e]):=by
 intro i j a b hi hj h1 h2;have hil:=C5 hi;have hjl:=C5 hj;rw[bJ,cy] at hil hjl;by_cases ei:i<l.length
 ·rw[aW ei] at hi;by_cases ej:j<l.length
  ·rw[aW ej] at hj;exact d i j a b hi hj h1 h2
  ·obtain rfl:j=l.length:=by omega
   rw[D5] at hj;obtain rfl:=Option.some.inj hj;exact absurd ⟨h1,h2⟩ (h a (aA hi))
 ·obtain rfl:i=l.length:=by omega
  rw[D5] at hi;obtain rfl:=Option.some.inj hi;by_cases ej:j<l.length
  ·rw[aW ej] at hj;exact absurd ⟨h1.symm,h2.symm⟩ (h b (aA hj))
  ·omega
structure In (G H:List rj) (s:qj):Prop where
 len:s.first+(s.log.length:Int)<=(G.length:Int)
 log: ∀ (i:Nat) e,s.log[i]? =some e->G[s.first.toNat+i]? =some e
 com: ∀ (i:Nat),(i:Int)<s.commit-> ∃e,G[i]? =some e/\H[i]? =some e
structure KM (x:qg) (G:Int->List rj) (H:List rj):Prop where
 mem: ∀ (k:Nat) s,x.servers[k]? =some s->s.config≠⟨0,0,[],[]⟩->In (G s.config.epoch) H s/\(s.config.primary=(k:Int)->s.log=G s.config.epoch)/\(s.config.epoch=x.master.activated->(H.length:Int)<=s.first+(s.log.length:Int))
 dst: ∀e,ZY (G e)
 lrn: ∀ (k:Nat) s,x.servers[k]? =some s->Pf s.learned H
 act:Pf H (G x.master.activated)
 non:x.master.activated=0->H= []
def UD(x:qg):Prop:=∀ (k:Nat) p,x.servers[k]? =some p->p.config≠⟨0,0,[],[]⟩->p.config.epoch<x.master.activated-> ∀M,EI p.config=some (M,())-> ∃m∈M,∀s,x.servers[m.toNat]? =some s-> ¬ (s.config=p.config/\s.epoch=p.config.epoch)
def Kw(x y:qg):Prop:=y.master.activated=x.master.activated/\ ∀ (k:Nat) t,y.servers[k]? =some t-> ∃s,x.servers[k]? =some s/\((t.config=s.config/\s.epoch<=t.epoch/\t.first=s.first/\t.log=s.log/\t.commit=s.commit/\t.learned=s.learned)\/(t.config=⟨0,0,[],[]⟩/\t.learned= []))
theorem Kw.self(x:qg):Kw x x:=⟨rfl,λ_ t h=>⟨t,h,.inl ⟨rfl,cU _,rfl,rfl,rfl,rfl⟩⟩⟩
theorem KM.kw{x y:qg}{G:Int->List rj}{H:List rj}(h:KM x G H)(k:Kw x y):KM y G H:=by
 refine⟨λj t ht hc=> ?_,h.dst,λj t ht=> ?_,?_,λe=>h.non (k.1.symm.trans e)⟩
 ·obtain⟨s,hs,⟨k1,_,k2,k3,k4,_⟩| ⟨k1,_⟩⟩:=k.2 j t ht
  ·obtain⟨⟨a1,a2,a3⟩,b,c⟩:=h.mem j s hs (k1 ▸ hc);rw[k1];exact⟨⟨by rw[k2,k3];exact a1,by rw[k2,k3];exact a2,by rw[k4];exact a3⟩,λe=>by rw[k3];exact b e,λe=>by rw[k2,k3];exact c (e.trans k.1)⟩
  ·exact absurd k1 hc
 ·obtain⟨s,hs,⟨_,_,_,_,_,k5⟩| ⟨_,k5⟩⟩:=k.2 j t ht
  ·rw[k5];exact h.lrn j s hs
  ·rw[k5];exact .nil _
 ·rw[k.1];exact h.act
theorem JS{x:qg}(ok:Ew 1048576 x)(hv:Ea x=some (true,())){k:Nat}{s:qj}(hs:x.servers[k]? =some s):SV x.master s (k:Int)/\ED 1048576 s:=by have hlt:=C5 hs;have sv:=K1 ok hv k hlt;have okx:=ok.1.2 _ (DF hlt);rw[aq hlt] at hs;rw[Option.some.inj hs] at sv okx;exact⟨sv,okx⟩
theorem UD.kw{x y:qg}(ok:Ew 1048576 x)(hv:Ea x=some (true,()))(h:UD x)(k:Kw x y):UD y:=by
 intro j p hp hc he M hM;obtain⟨s,hs,⟨k1,_⟩| ⟨k1,_⟩⟩:=k.2 j p hp
 ·rw[k1] at hc he hM ⊢;rw[k.1] at he;obtain⟨m,hm,hn⟩:=h j s hs hc he M hM;refine⟨m,hm,λt ht ⟨e1,e2⟩=> ?_⟩;obtain⟨u,hu,⟨q1,q2,_⟩| ⟨q1,_⟩⟩:=k.2 _ t ht
  ·rw[q1] at e1;obtain⟨su,oku⟩:=JS ok hv hu;obtain⟨n,v⟩:=OD oku su.val (by rw[e1];exact hc);have hle:=v.le;rw[e1] at hle;exact hn u hu ⟨e1,by omega⟩
  ·exact hc (e1.symm.trans q1)
 ·exact absurd k1 hc
theorem VO{x:qg}(ok:Ew 1048576 x)(hv:Ea x=some (true,())){j k:Nat}{s t:qj}(hs:x.servers[j]? =some s)(ht:x.servers[k]? =some t)(hc:s.config≠⟨0,0,[],[]⟩)(hd:t.config≠⟨0,0,[],[]⟩)(he:s.config.epoch=t.config.epoch):s.config=t.config:=by have h1:=((JS ok hv hs).1.cfg.resolve_left hc).1;have h2:=((JS ok hv ht).1.cfg.resolve_left hd).1;rw[he,h2] at h1;exact ((Prod.mk.inj (Option.some.inj h1)).1).symm
theorem KM.prim{x:qg}{G:Int->List rj}{H:List rj}(ok:Ew 1048576 x)(hv:Ea x=some (true,()))(h:KM x G H){id:Int}(h0:0<=id){s:qj}(hs:x.servers[id.toNat]? =some s)(hc:s.config≠⟨0,0,[],[]⟩)(hp:s.config.primary=id):s.log=G s.config.epoch/\s.first=0:=by obtain⟨i1,i2,i3⟩:=h.mem _ s hs hc;have hG:s.log=G s.config.epoch:=i2 (by rw[hp];exact (DP h0).symm);refine⟨hG,?_⟩;have hl:=i1.len;rw[<-hG] at hl;obtain⟨sv,oks⟩:=JS ok hv hs;have:=(FO oks sv.val).1;omega
theorem KM.append{x:qg}{G:Int->List rj}{H:List rj}(ok:Ew 1048576 x)(hv:Ea x=some (true,()))(h:KM x G H){id:Int}(h0:0<=id){s:qj}(hs:x.servers[id.toNat]? =some s)(hc:s.config≠⟨0,0,[],[]⟩)(hp:s.config.primary=id)(e:rj)(hn: ∀a∈s.log,¬ (a.op.client=e.op.client/\a.op.seq=e.op.seq)):
  ∃G',KM (K2 x (x.servers.set id.toNat ⟨s.up,s.intact,s.version,s.epoch,s.config,s.first,s.log++ [e],s.commit,s.learned⟩)) G' H:=by
 obtain⟨i1,i2,i3⟩:=h.mem _ s hs hc;obtain⟨hG,hf⟩:=h.prim ok hv h0 hs hc hp
 have gp: ∀q,Pf (G q) (if q=s.config.epoch then s.log++ [e] else G q):=λq=>by
  split
  ·next hq=>rw[hq,<-hG];exact .app _ _
  ·exact .refl _
 refine⟨λq=>if q=s.config.epoch then s.log++ [e] else G q,λk t ht hct=> ?_,λq=> ?_,λk t ht=> ?_,h.act.trans (gp _),h.non⟩
 ·have ht: (x.servers.set id.toNat (⟨s.up,s.intact,s.version,s.epoch,s.config,s.first,s.log++ [e],s.commit,s.learned⟩:qj))[k]? =some t:=ht;by_cases hk:id.toNat=k
  ·subst hk;rw[DG (C5 hs)] at ht;obtain rfl:=Option.some.inj ht;dsimp only;rw[if_pos rfl];refine⟨⟨?_,λi a hi=> ?_,λi hi=> ?_⟩,λ_=>rfl,λhA=> ?_⟩
   ·show s.first+((s.log++ [e]).length:Int)<=((s.log++ [e]).length:Int);omega
   ·show (s.log++ [e])[s.first.toNat+i]? =some a;rw[hf];show (s.log++ [e])[0+i]? =some a;rw[aP];exact hi
   ·obtain⟨a,a1,a2⟩:=i1.com i hi;rw[<-hG] at a1;exact⟨a,Pf.app _ _ _ _ a1,a2⟩
   ·have:=i3 hA;show (H.length:Int)<=s.first+((s.log++ [e]).length:Int);rw[bJ,cy];omega
  ·rw[DJ hk] at ht;obtain⟨⟨j1,j2,j3⟩,j4,j5⟩:=h.mem k t ht hct;refine⟨⟨?_,λi a hi=>gp _ _ _ (j2 i a hi),λi hi=> ?_⟩,λhpk=> ?_,j5⟩
   ·have:=(gp t.config.epoch).len;omega
   ·obtain⟨a,a1,a2⟩:=j3 i hi;exact⟨a,gp _ _ _ a1,a2⟩
   ·rw[if_neg]
    ·exact j4 hpk
    ·intro he;have:=VO ok hv ht hs hct hc he;rw[this,hp] at hpk;exact hk (by omega)
 ·split
  ·exact X3 (by rw[hG];exact h.dst _) hn
  ·exact h.dst q
 ·have ht: (x.servers.set id.toNat (⟨s.up,s.intact,s.version,s.epoch,s.config,s.first,s.log++ [e],s.commit,s.learned⟩:qj))[k]? =some t:=ht;by_cases hk:id.toNat=k
  ·subst hk;rw[DG (C5 hs)] at ht;obtain rfl:=Option.some.inj ht;exact h.lrn _ s hs
  ·rw[DJ hk] at ht;exact h.lrn k t ht
theorem ZK{w:qj}{l:List rj}{n:Int}(h:n≠3->w.first=0): (G1 w l n).config=w.config/\(G1 w l n).commit=w.commit/\(G1 w l n).learned=w.learned/\(G1 w l n).epoch=w.epoch/\(G1 w l n).first+((G1 w l n).log.length:Int)=(l.length:Int)/\(∀ (i:Nat) e,(G1 w l n).log[i]? =some e->l[(G1 w l n).first.toNat+i]? =some e)/\(n≠3->(G1 w l n).log=l):=by
 unfold G1;split
 ·next h3=>
  refine⟨rfl,rfl,rfl,rfl,?_,λi e hi=> ?_,λhn=>absurd h3 hn⟩
  ·show ((cutAt l:Nat):Int)+((l.drop (cutAt l)).length:Int)=_;have :cutAt l<=l.length:=Nat.sub_le _ _;rw[co];omega
  ·show l[((cutAt l:Nat):Int).toNat+i]? =some e;rw[DC,<-bf];exact hi
 ·next h3=>
  have hf:=h h3;refine⟨rfl,rfl,rfl,rfl,?_,λi e hi=> ?_,λ_=>rfl⟩
  ·show w.first+(l.length:Int)=_;omega
  ·show l[w.first.toNat+i]? =some e;rw[hf];show l[0+i]? =some e;rw[aP];exact hi
theorem KM.push{x y:qg}{G:Int->List rj}{H:List rj}(ok:Ew 1048576 x)(h:KM x G H){id m:Int}(hp:Pu x y id m):KM y G H:=by
 obtain⟨u,w,n,u1,u2,w1,w2,n1,_,rfl⟩:=hp.ex;have hv:=hp.valid;have vc:=El ok hv;have oku:=ok.1.2 u (aA u1);have okw:=ok.1.2 w (aA w1);obtain⟨_,_,_,g4,_⟩:=UP ok vc hp.rid hp.rm w2 u1 w1;have pf:=Hk oku u2;have hcu:u.config≠⟨0,0,[],[]⟩:=Nr (Fc (Ee oku.1) pf.1).2.2.2.1;have hcw:w.config≠⟨0,0,[],[]⟩:=by rw[g4];exact hcu
 have hm: ((m.toNat:Nat):Int)=m:=DP hp.rm.1;obtain⟨hG,hfu⟩:=h.prim ok hv hp.rid.1 u1 hcu pf.2.symm;obtain⟨i1,i2,i3⟩:=h.mem _ u u1 hcu;obtain⟨j1,j2,j3⟩:=h.mem _ w w1 hcw;obtain⟨n',n1',_,_,n4⟩:=Nd u.config m (Ee oku.1) pf.1;obtain rfl:n'=n:=(Prod.mk.inj (Option.some.inj (n1'.symm.trans n1))).1
 have hwf:n'≠3->w.first=0:=λh3=>by obtain⟨r,vs⟩:=OD okw (JS ok hv w1).1.val hcw;have hr:=vs.role;rw[hm,g4,n1] at hr;obtain rfl:n'=r:=(Prod.mk.inj (Option.some.inj hr)).1;exact vs.rep h3
 obtain⟨p1,p2,p3,_,p5,p6,p7⟩:=ZK (l:=u.log) hwf;refine⟨λk t ht hct=> ?_,h.dst,λk t ht=> ?_,h.act,h.non⟩
 ·have ht: (x.servers.set m.toNat (G1 w u.log n'))[k]? =some t:=ht;by_cases hk:m.toNat=k
  ·subst hk;rw[DG (C5 w1)] at ht;generalize G1 w u.log n'=t' at*;obtain rfl:=Option.some.inj ht;rw[p1,g4,<-hG];refine⟨⟨by rw[p5];exact cU _,p6,λi hi=> ?_⟩,λhpm=> ?_,λhA=> ?_⟩
   ·rw[p2] at hi;have:=j1.com i hi;rw[g4,<-hG] at this;exact this
   ·exact p7 λh3=>n4 h3 (by rw[hpm,hm])
   ·rw[p5];have:=i3 hA;omega
  ·rw[DJ hk] at ht;exact h.mem k t ht hct
 ·have ht: (x.servers.set m.toNat (G1 w u.log n'))[k]? =some t:=ht;by_cases hk:m.toNat=k
  ·subst hk;rw[DG (C5 w1)] at ht;obtain rfl:=Option.some.inj ht;rw[p3];exact h.lrn _ w w1
  ·rw[DJ hk] at ht;exact h.lrn k t ht
theorem UD.push{x y:qg}(ok:Ew 1048576 x)(h:UD x){id m:Int}(hp:Pu x y id m):UD y:=by
 have ck:=Vi hp
 have back: ∀ (k:Nat) t,y.servers[k]? =some t-> ∃s,x.servers[k]? =some s/\t.epoch=s.epoch/\t.config=s.config:=λk t ht=>by have hlt:=C5 ht;rw[ck.len] at hlt;obtain⟨t',t1,_,_,t4,t5,_⟩:=ck.srv k _ (aq hlt);obtain rfl:=Option.some.inj (t1.symm.trans ht);exact⟨_,aq hlt,t4,t5⟩
 intro k p hpk hc he M hM;obtain⟨s,s1,_,s3⟩:=back k p hpk;rw[s3] at hc he hM ⊢;rw[ck.master] at he;obtain⟨z,hz,hn⟩:=h k s s1 hc he M hM;refine⟨z,hz,λt ht hh=> ?_⟩;obtain⟨q,q1,q2,q3⟩:=back _ t ht;rw[q2,q3] at hh;exact hn q q1 hh
theorem UD.last{x:qg}(ok:Ew 1048576 x)(hv:Ea x=some (true,()))(h:UD x){id:Int}(hid:0<=id/\id<5){p:qj}(hp:x.servers[id.toNat]? =some p)(hpn:Er p id=some (true,())){M:List Int}(hM:EI p.config=some (M,()))(hall: ∀m∈M,∀t,x.servers[m.toNat]? =some t->t.config=p.config/\t.epoch=p.epoch):p.config.epoch=x.master.activated:=by
 obtain⟨sv,okp⟩:=JS ok hv hp;have pf:=Hk okp hpn;have hc:p.config≠⟨0,0,[],[]⟩:=Nr (Fc (Ee okp.1) pf.1).2.2.2.1;have hle:=(sv.cfg.resolve_left hc).2;rcases Int.lt_or_eq_of_le hle with hlt|he
 ·obtain⟨m,hm,hn⟩:=h _ p hp hc hlt M hM;obtain⟨M',m1,_,_,m4,_⟩:=Hc p.config (Ee okp.1);obtain rfl:M'=M:=(Prod.mk.inj (Option.some.inj (m1.symm.trans hM))).1;obtain⟨t,t1,_⟩:=HI ok (El ok hv) (m4 m hm);obtain⟨e1,e2⟩:=hall m hm t t1;exact absurd ⟨e1,e2.trans (SC okp hpn)⟩ (hn t t1)
 ·exact he
theorem KM.commit{x y:qg}{G:Int->List rj}{H:List rj}(ok:Ew 1048576 x)(hv:Ea x=some (true,()))(h:KM x G H)(ho:UD x){id:Int}(hid:0<=id/\id<5){p:qj}(hp:x.servers[id.toNat]? =some p)(hpn:Er p id=some (true,())){M:List Int}(hM:EI p.config=some (M,()))(hall: ∀m∈M,∀t,x.servers[m.toNat]? =some t->t.config=p.config/\t.epoch=p.epoch/\t.first+(t.log.length:Int)=(p.log.length:Int))(hm:y.master=x.master)
  (hS: ∀ (k:Nat) t,y.servers[k]? =some t-> ∃s,x.servers[k]? =some s/\t.config=s.config/\t.first=s.first/\t.log=s.log/\t.learned=s.learned/\(t.commit=s.commit\/(t.commit=(p.log.length:Int)/\s.config=p.config))):KM y G p.log:=by
 obtain⟨sv,okp⟩:=JS ok hv hp;have pf:=Hk okp hpn;have hc:p.config≠⟨0,0,[],[]⟩:=Nr (Fc (Ee okp.1) pf.1).2.2.2.1;have hA:=ho.last ok hv hid hp hpn hM λm hm t ht=>⟨(hall m hm t ht).1,(hall m hm t ht).2.1⟩
 obtain⟨hG,hf⟩:=h.prim ok hv hid.1 hp hc pf.2.symm;have hH:Pf H p.log:=by rw[hG,hA];exact h.act
 refine⟨λk t ht hct=> ?_,h.dst,λk t ht=> ?_,?_,λe=> ?_⟩
 ·obtain⟨s,s1,s2,s3,s4,_,s6⟩:=hS k t ht;rw[s2] at hct;obtain⟨⟨j1,j2,j3⟩,j4,j5⟩:=h.mem k s s1 hct;rw[s2];refine⟨⟨by rw[s3,s4];exact j1,by rw[s3,s4];exact j2,λi hi=> ?_⟩,λe=>by rw[s4];exact j4 e,λe=> ?_⟩
  ·rcases s6 with s6| ⟨s6,s7⟩
   ·rw[s6] at hi;obtain⟨a,a1,a2⟩:=j3 i hi;exact⟨a,a1,hH _ _ a2⟩
   ·rw[s6] at hi;have hi:i<p.log.length:=by omega
    rw[s7,<-hG];exact⟨_,aq hi,aq hi⟩
  ·have hsc:s.config=p.config:=VO ok hv s1 hp hct hc (by rw[hA,<-hm];exact e);obtain⟨ss,oks⟩:=JS ok hv s1;obtain⟨n,vs⟩:=OD oks ss.val hct;obtain⟨n',n1,_,n3,_⟩:=Nd s.config (k:Int) (Ee oks.1) (by rw[hsc];exact pf.1);obtain rfl:n'=n:=(Prod.mk.inj (Option.some.inj (n1.symm.trans vs.role))).1;obtain⟨M',m1,_,_,_,_,m6⟩:=Hc p.config (Ee okp.1);obtain rfl:M'=M:=(Prod.mk.inj (Option.some.inj (m1.symm.trans hM))).1;have hk: (k:Int)∈M':=(m6 pf.1 _).2 (by rw[<-hsc];exact Classical.byContradiction λh=>vs.in' (n3.2 h));have:=(hall _ hk s (by rw[DC];exact s1)).2.2;rw[s3,s4];omega
 ·obtain⟨s,s1,_,_,_,s5,_⟩:=hS k t ht;rw[s5];exact (h.lrn k s s1).trans hH
 ·rw[hm,<-hA,<-hG];exact .refl _
 ·rw[hm,<-hA] at e;have:=(Fc (Ee okp.1) pf.1).2.2.2.1;omega
end
section
theorem XC{c:nE}{y n:Int}(h:Gc maxLen c)(hn:EJ c y=some (n,()))(h3:n=3):y∉c.replicas:=by intro hy;obtain⟨v,v1,_⟩:=Gu c h;unfold EJ at hn;simp only[v1,(Ey c.replicas y h.1).1,ao,Eb,decide_eq_true hy,CG] at hn;have no: ∀ {k:Int},k≠3->some (k,())=some (n,())->False:=λhk e=>hk ((Prod.mk.inj (Option.some.inj e)).1.trans h3);exact Mw hn (λ_ hn=>Mw hn (λ_=>no (by decide)) λ_=>no (by decide)) λ_=>no (by decide)
theorem KM.install{x y:qg}{G:Int->List rj}{H:List rj}{c:nE}{M:List Int}{l:List rj}(ok:Ew 1048576 x)(hv:Ea x=some (true,()))(h:KM x G H)(a:Zk x y c M l)(hH:Pf H l)(hd:ZY l):KM y (λq=>if q=c.epoch then l else G q) l:=by
 obtain⟨c3,cv,ce,ca,hm,hat,m4,m6⟩:=a.cfg ok hv;have ym:y.master.activated=c.epoch:=by rw[a.master]
 have hcut:cutAt l<=l.length:=Nat.sub_le _ _
 have kind: ∀ (k:Nat) t,y.servers[k]? =some t->(∃s n,Zl s t c l n/\EJ c (k:Int)=some (n,()))\/ ∃s ep,x.servers[k]? =some s/\t=Ht s ep:=λk t ht=>by
  by_cases hz: ∃z∈M,z.toNat=k
  ·obtain⟨z,hz,rfl⟩:=hz;obtain⟨s,t',n,_,_,_,a4,a5,a6⟩:=a.mem z hz;obtain rfl:=Option.some.inj (a5.symm.trans ht);exact .inl ⟨s,n,a6,by rw[DP (m4 z hz).1];exact a4⟩
  ·have hlt:=C5 ht;rw[a.len] at hlt;obtain⟨ep,e1,_⟩:=a.rest k _ (aq hlt) λz h1 h2=>hz ⟨z,h1,h2⟩;exact .inr ⟨_,ep,aq hlt,Option.some.inj (ht.symm.trans e1)⟩
 refine⟨λk t ht hct=> ?_,λq=> ?_,λk t ht=> ?_,?_,λe=> ?_⟩
 ·rcases kind k t ht with ⟨s,n,i,hn⟩| ⟨s,ep,hs,rfl⟩
  ·rw[i.config,if_pos rfl]
   have lenE:t.first+(t.log.length:Int)=(l.length:Int):=by
    rw[i.first,i.log];split
    ·rw[co];omega
    ·omega
   refine⟨⟨by rw[lenE];exact cU _,λj e he=> ?_,λj hj=> ?_⟩,λhp=> ?_,λ_=>by rw[lenE];exact cU _⟩
   ·rw[i.log] at he;rw[i.first];split
    ·next h3=>rw[if_pos h3] at he;rw[DC,<-bf];exact he
    ·next h3=>rw[if_neg h3] at he;show l[0+j]? =some e;rw[aP];exact he
   ·rw[i.commit] at hj;have hj:j<l.length:=by omega
    exact⟨_,aq hj,aq hj⟩
   ·obtain⟨n',n1,_,_,n4⟩:=Nd c (k:Int) c3 cv;obtain rfl:n'=n:=(Prod.mk.inj (Option.some.inj (n1.symm.trans hn))).1;rw[i.log,if_neg λh3=>n4 h3 hp.symm]
  ·have hct:s.config≠⟨0,0,[],[]⟩:=hct;have hle:=((JS ok hv hs).1.cfg.resolve_left hct).2;obtain⟨⟨j1,j2,j3⟩,j4,_⟩:=h.mem k s hs hct;show In (if s.config.epoch=c.epoch then l else G s.config.epoch) l _/\(s.config.primary=(k:Int)->s.log=if s.config.epoch=c.epoch then l else G s.config.epoch)/\(s.config.epoch=y.master.activated->_);rw[if_neg (show ¬s.config.epoch=c.epoch by omega)];refine⟨⟨j1,j2,λi hi=> ?_⟩,j4,λe=> ?_⟩
   ·obtain⟨e,e1,e2⟩:=j3 i hi;exact⟨e,e1,hH _ _ e2⟩
   ·rw[ym] at e;have e:s.config.epoch=c.epoch:=e;omega
 ·split
  ·exact hd
  ·exact h.dst q
 ·rcases kind k t ht with ⟨s,n,i,_⟩| ⟨s,ep,hs,rfl⟩
  ·rw[i.learned];exact .nil _
  ·exact (h.lrn k s hs).trans hH
 ·rw[ym,if_pos rfl];exact .refl _
 ·rw[ym] at e;have:=(Fc c3 cv).2.2.2.1;omega
theorem UD.install{x y:qg}{c:nE}{M:List Int}{l:List rj}(ok:Ew 1048576 x)(hv:Ea x=some (true,()))(h:UD x)(a:Zk x y c M l)
  (hr: ∀ (k:Nat) s,x.servers[k]? =some s->(∀z∈M,z.toNat≠k)-> ∃ep,y.servers[k]? =some (Ht s ep)/\s.epoch<=ep)
  (hs: ∀o Mo,Ef x.master=some (o,true,())->EI o=some (Mo,())-> ∃z∈Mo,(∃q∈M,q.toNat=z.toNat)\/ ∀t,y.servers[z.toNat]? =some t->c.epoch<=t.epoch):UD y:=by
 obtain⟨c3,cv,ce,ca,hm,hat,m4,m6⟩:=a.cfg ok hv;have ym:y.master.activated=c.epoch:=by rw[a.master]
 have new: ∀ (q:Int),q∈M-> ∀t,y.servers[q.toNat]? =some t->t.config=c:=λq hq t ht=>by obtain⟨s,t',n,_,_,_,_,a5,a6⟩:=a.mem q hq;obtain rfl:=Option.some.inj (a5.symm.trans ht);exact a6.config
 have rest: ∀ (k:Nat) t,y.servers[k]? =some t->t.config≠c-> ∃s ep,x.servers[k]? =some s/\t=Ht s ep/\s.epoch<=ep:=λk t ht hne=>by have hlt:=C5 ht;rw[a.len] at hlt;obtain⟨ep,e1,e2⟩:=hr k _ (aq hlt) λz h1 h2=>hne (new z h1 t (by rw[h2];exact ht));exact⟨_,ep,aq hlt,Option.some.inj (ht.symm.trans e1),e2⟩
 intro k p hp hc he Mp hMp;rw[ym] at he;have hpc:p.config≠c:=λe=>by rw[e] at he;exact absurd he (DH _)
 obtain⟨s,ep,s1,rfl,_⟩:=rest k p hp hpc;have hc:s.config≠⟨0,0,[],[]⟩:=hc;have he:s.config.epoch<c.epoch:=he;have hpc:s.config≠c:=hpc;obtain⟨sv,oks⟩:=JS ok hv s1;obtain⟨sc,sle⟩:=sv.cfg.resolve_left hc;rcases Int.lt_or_eq_of_le sle with hlt|heq
 ·obtain⟨m,hm,hn⟩:=h k s s1 hc hlt Mp hMp;refine⟨m,hm,λt ht ⟨e1,e2⟩=> ?_⟩;have e1:t.config=s.config:=e1;have e2:t.epoch=s.config.epoch:=e2;obtain⟨u,eu,u1,rfl,u2⟩:=rest _ t ht (by rw[e1];exact hpc);have e1:u.config=s.config:=e1;have e2:eu=s.config.epoch:=e2;obtain⟨su,oku⟩:=JS ok hv u1;have hle:=XK oku su.val;rw[e1] at hle;exact hn u u1 ⟨e1,by omega⟩
 ·have hla:Ef x.master=some (s.config,true,()):=by
   unfold Ef;rw[<-heq,sc];rfl
  obtain⟨z,hz,hq⟩:=hs _ Mp hla hMp;refine⟨z,hz,λt ht ⟨e1,e2⟩=> ?_⟩;have e1:t.config=s.config:=e1;have e2:t.epoch=s.config.epoch:=e2;rcases hq with ⟨q,q1,q2⟩|hq
  ·exact hpc (e1.symm.trans (new q q1 t (by rw[q2];exact ht)))
  ·have:=hq t ht;omega
theorem Z8(a:List rj)(n:Int)(t:List rj)(ha:a.length<=maxLen):Ev (λy=>y.2.1=true-> ∃k:Nat,y.1=a++t.drop k/\0<=n/\k+n.toNat<=a.length/\(k+n.toNat=a.length\/k=t.length)) (FZ a n t):=by
 unfold FZ;refine .bd λ_ _=> .brn (λ_=> .bd λ_ _=> .brn (λ_=> .br (λ_=> .ret nofun) λ_=> .ip λh3=> .bd λy3 hy3=> .br (λ_=> .ret nofun) λhlt=> .bind (Og a) λy4 h4=> .ip λ_=> .ip λ_=> .bd λy5 _=> .brn (λ_=> .ret λ_=> ?_) λ_=> .ret nofun) λ_=> .ret nofun) λ_=> .ret nofun;have h3:0<=n/\n<=(a.length:Int)/\(a.length:Int)<=(a.length:Int):=h3;obtain⟨k,k1,k2,k3,_⟩:=M1 ((a.drop n.toNat).take ((a.length:Int).toNat-n.toNat)) t (by rw[cP,co];omega);obtain rfl:y3=((k:Int),()):=Option.some.inj ((show Gt _ t=some y3 from hy3).symm.trans k1);rw[cP,co] at k2;have hlt:=of_decide_eq_false hlt;unfold maxLen at ha;rw[vM (n:=(a.length:Int)-n) (by omega) (by omega)] at hlt;dsimp only at hlt;refine⟨k,?_,h3.1,by omega,?_⟩
 ·show y4.1++(t.drop (k:Int).toNat).take ((t.length:Int).toNat-(k:Int).toNat)=_;rw[h4,DC,DC,bW (by rw[co];omega)]
 ·split at hlt<;>omega
section
variable {x:qg} {G:Int->List rj} {H:List rj} (ok:Ew 1048576 x) (hv:Ea x=some (true,())) (h:KM x G H)
include ok hv h
theorem Ze{k:Nat}{s:qj}(hs:x.servers[k]? =some s)(hr: (k:Int)∈s.config.replicas):Pf (KW s) H:=by
 have hc:s.config≠⟨0,0,[],[]⟩:=λe=>by rw[e] at hr;cases hr
 obtain⟨sv,oks⟩:=JS ok hv hs;obtain⟨n,vs⟩:=OD oks sv.val hc;have hf:=vs.rep λh3=>XC (Ee oks.1) vs.role h3 hr;obtain⟨⟨j1,j2,j3⟩,_⟩:=h.mem k s hs hc;intro i e hi;unfold KW at hi;split at hi
 ·rw[hf,Int.sub_zero] at hi;have hlt:=C5 hi;rw[cP] at hlt;rw[D7 (by omega)] at hi;obtain⟨e',e1,e2⟩:=j3 i (by omega);have:=j2 i e hi;rw[hf] at this;have this: (G s.config.epoch)[0+i]? =some e:=this;rw[aP,e1] at this;rw[<-this];exact e2
 ·simp at hi
theorem Z3{k:Nat}{s:qj}(hs:x.servers[k]? =some s):Ev (λy=>Pf y.1 H) (G9 s (k:Int)):=by
 obtain⟨sv,oks⟩:=JS ok hv hs;rw[(SM s (k:Int) oks sv.val).1];refine .ret ?_;show Pf (data s (k:Int)) H;unfold data;split
 ·next hr=>
  split
  ·exact Ze ok hv h hs hr
  ·exact h.lrn k s hs
 ·exact h.lrn k s hs
theorem WS{b:List rj}(hb:Pf b H){k:Nat}{w:qj}(hw:x.servers[k]? =some w)(hc:w.config≠⟨0,0,[],[]⟩)(he:w.config.epoch=x.master.activated):Ev (λy=>y.2.1=true->Pf H y.1/\Pf y.1 (G x.master.activated)) (FZ b w.first w.log):=by
 obtain⟨⟨j1,j2,j3⟩,_,j5⟩:=h.mem k w hw hc;rw[he] at j1 j2;have j5:=j5 he;have hl:=h.act.len;have hbl:=hb.len;obtain⟨sv,okw⟩:=JS ok hv hw;have hsm:=FO okw sv.val
 have bl:b.length<=maxLen:=by unfold maxLen;omega
 refine (Z8 b w.first w.log bl).mono λy hy e=> ?_;obtain⟨n,y1,n1,n2,n3⟩:=hy e
 have n4:n+w.first.toNat=b.length:=by rcases n3 with n3|n3<;>omega
 have hG:Pf y.1 (G x.master.activated):=λi e hi=>by
  rw[y1] at hi;by_cases hib:i<b.length
  ·rw[aW hib] at hi;exact h.act _ _ (hb _ _ hi)
  ·rw[bc (by omega),bf] at hi;have:=j2 _ _ hi;rw[show w.first.toNat+(n+(i-b.length))=i by omega] at this;exact this
 refine⟨λi e hi=> ?_,hG⟩;have hiH:=C5 hi;have hly:y.1.length=b.length+(w.log.length-n):=by rw[y1,bJ,co]
 have hiy:i<y.1.length:=by omega
 rw[aq hiy];have h1:=hG i _ (aq hiy);rw[h.act i e hi] at h1;exact h1.symm
end
end
section
theorem UA(x:qg)(ok:Ew 1048576 x)(id e:Int):Ev (λy=>y.1.master=x.master/\y.1.servers.length=x.servers.length/\ ∀ (j:Nat) s,x.servers[j]? =some s-> ∃ep,y.1.servers[j]? =some (Ht s ep)/\s.epoch<=ep) (EO x id e):=by
 have self:x.servers.length=x.servers.length/\ ∀ (j:Nat) s,x.servers[j]? =some s-> ∃ep,x.servers[j]? =some (Ht s ep)/\s.epoch<=ep:=⟨rfl,λj s hs=>⟨s.epoch,hs,cU _⟩⟩
 obtain⟨c,b,c1,c2,c3⟩:=SF x ok;unfold EO;rw[(EG x ok).1,ao,c1,ao];refine .bd λv hv=> .brn (λev=> .brn (λ_=> .bd λ_ _=> .brn (λ_=> .bd λM hM=> ?_) λ_=> .ret ⟨rfl,self⟩) λ_=> .ret ⟨rfl,self⟩) λ_=> .ret ⟨rfl,self⟩;have hvx:Ea x=some (true,()):=hv.trans (congrArg some (Prod.ext ev rfl));have vc:=El ok hvx;obtain⟨M',m1,_,m3,m4,_⟩:=Hc c c2;obtain rfl:M=(M',()):=Option.some.inj ((show EI c=some M from hM).symm.trans m1);have mm:M'.length<=maxLen:=by unfold maxLen;omega
 refine .bind (.count (B:=EX) (E:=λq=> ∃S:List qj,(S.length=x.servers.length/\ ∀ (j:Nat) s,x.servers[j]? =some s-> ∃ep,S[j]? =some (Ht s ep)/\s.epoch<=ep)/\q=(((),(),()),(fz,fc x,()),S,x.sides,x.master.configs,x.places,())) (λk (S:List qj)=>((id,e,(),(),(),(),(k:Int),()),(fx x,fz,fc x,()),M',S,x.sides,x.master.configs,x.places,())) (λk S=>k<=M'.length/\S.length=x.servers.length/\ ∀ (j:Nat) s,x.servers[j]? =some s-> ∃ep,S[j]? =some (Ht s ep)/\s.epoch<=ep) (λk S hJ=> ?_) (b:=x.servers) ⟨bM _,self⟩) ?_
 ·obtain⟨_,hS⟩:=hJ;refine .br (λh=> .ip λ_=> .bd λz hz=> .ip λ_=> .bd λs hs=> ?_) λ_=> .ret ⟨S,hS,rfl⟩;have hk:k<M'.length:=DE.1 (of_decide_eq_true h);have hz:M'[k]? =some z:=hz;have sw:=BG mm hk;refine .br (λ_=> .ip λ_=> .bd λz2 hz2=> .bd λ_ _=> .br (λ_=> .ip λ_=> .bd λz3 hz3=> .ip λ_=> .bd λz4 hz4=> .ip λ_=> .bd λt ht=> .bd λr hr=> .ip λ_=> .bd λu hu=> .ret ⟨S.set z3.toNat r.1,by rw[sw],hk,?_⟩) λ_=> .ret ⟨S,by rw[sw],hk,hS⟩) λ_=> .ret ⟨S,by rw[sw],hk,hS⟩;obtain rfl:z3=z:=Option.some.inj ((show M'[k]? =some z3 from hz3).symm.trans hz);obtain rfl:z4=z3:=Option.some.inj ((show M'[k]? =some z4 from hz4).symm.trans hz);have ht:x.servers[z4.toNat]? =some t:=ht;have hu:S[z4.toNat]? =some u:=hu;have hzr:=m4 z4 (aA hz);have okt:=ok.1.2 t (aA ht)
  have hre: ∃ep,r.1=Ht t ep/\t.epoch<=ep:=by have hr:F2 t e=some r:=hr;unfold F2 at hr;rw[(L5 t okt).1,ao,EF,ao,Eb] at hr;exact Mw hr (λ_ hr=>Mw hr (λ_ hr=>⟨t.epoch,by rw[<-Option.some.inj hr],cU _⟩) λh1 hr=>Mw hr (λ_ hr=>⟨t.epoch,by rw[<-Option.some.inj hr],cU _⟩) λ_ hr=>⟨e,by rw[<-Option.some.inj hr],by have:=of_decide_eq_false h1;omega⟩) λ_ hr=>⟨t.epoch,by rw[<-Option.some.inj hr],cU _⟩
  obtain⟨ep,r1,r2⟩:=hre;refine⟨by rw[DI];exact hS.1,λj s' hs'=> ?_⟩;by_cases hj:z4.toNat=j
  ·subst hj;obtain rfl:s'=t:=Option.some.inj (hs'.symm.trans ht);exact⟨ep,by rw[DG (C5 hu),r1],r2⟩
  ·rw[DJ hj];exact hS.2 j s' hs'
 ·rintro _ ⟨S,hS,rfl⟩
  exact .ret ⟨rfl,hS⟩
theorem ZT{x:qg}(ok:Ew 1048576 x){a:nE}{d:Bool}(hla:Ef x.master=some (a,d,()))(hr:a.replicas.length<=maxLen)(id:Int):Ev (λy=> ∀z∈y.1,z∈a.replicas/\Cd x a.epoch id z) (Fn x id):=by
 unfold Fn;rw[hla,ao];refine .bind (.count (B:=FG) (E:=λe=> ∀z∈e.2.2.1,z∈a.replicas/\Cd x a.epoch id z) (λk (b:List Int)=>((id,(),(),(),d,(k:Int),()),(fx x,(a.epoch,a.primary,(),(),()),()),(b,a.replicas,a.witnesses,()))) (λk b=>k<=a.replicas.length/\ ∀z∈b,z∈a.replicas/\Cd x a.epoch id z) (λk b hJ=> ?_) (b:=[]) ⟨bM _,nofun⟩) λe he=> .ret he;refine .br (λh=> .br (λ_=> .bd λ_ _=> .br (λ_=> .bd λ_ _=> .br (λ_=> .ip λ_=> .bd λz hz=> .ip λ_=> .bd λs hs=> ?_) λ_=> .ret hJ.2) λ_=> .ret hJ.2) λ_=> .ret hJ.2) λ_=> .ret hJ.2;have hk:k<a.replicas.length:=DE.1 (of_decide_eq_true h);have hz:a.replicas[k]? =some z:=hz;have hs:x.servers[z.toNat]? =some s:=hs;have sw:=BG hr hk;refine .br (λhu=> .br (λhe=> .ip λ_=> .bd λz2 hz2=> .bd λsd hsd=> .br (λhd=> .ip λ_=> .bd λz3 hz3=> .ip λ_=> .ret ⟨b++ [z3],by rw[sw],hk,λy hy=> ?_⟩) λhd=> .ret ⟨b,by rw[sw],hk,hJ.2⟩) λhe=> .ret ⟨b,by rw[sw],hk,hJ.2⟩) λhu=> .ret ⟨b,by rw[sw],hk,hJ.2⟩;rcases bC.1 hy with hy|hy
 ·exact hJ.2 y hy
 ·rw[aL.1 hy];obtain rfl:z3=z:=Option.some.inj ((show a.replicas[k]? =some z3 from hz3).symm.trans hz);obtain rfl:z2=z3:=Option.some.inj ((show a.replicas[k]? =some z2 from hz2).symm.trans hz);exact⟨aA hz,s,hs,hu,eq_of_beq he,(show EK x.sides id z2=some sd from hsd).trans (congrArg some (Prod.ext hd rfl))⟩
section
variable {x:qg} (P:List rj->Prop)
theorem Zy(id:Int){c:nE}{w:qj}(hP: ∀ (k:Nat) s b,x.servers[k]? =some s->G9 s (k:Int)=some (b,())->Ev (λy=>y.2.1=true->P y.1) (FZ b w.first w.log))(j:Int)(d:Bool)(b:List rj×Bool)(hb:b.2=true->P b.1):Ev (λe=> ∃r:List rj×Bool,(r.2=true->P r.1)/\e=((id,(),(),r.2,(),d,j,()),(fx x,(c.epoch,c.primary,(),(),()),()),r.1,c.replicas,c.witnesses,())) (H1 ((id,(),(),b.2,(),d,j,(),0,()),(fx x,(c.epoch,c.primary,(),(),()),WI w,()),b.1,c.replicas,c.witnesses,())):=by refine .count (B:=Fw) (E:=λe=> ∃r:List rj×Bool,(r.2=true->P r.1)/\e=((id,(),(),r.2,(),d,j,()),(fx x,(c.epoch,c.primary,(),(),()),()),r.1,c.replicas,c.witnesses,())) (λk (b:List rj×Bool)=>((id,(),(),b.2,(),d,j,(),(k:Int),()),(fx x,(c.epoch,c.primary,(),(),()),WI w,()),b.1,c.replicas,c.witnesses,())) (λ_ b=>b.2=true->P b.1) (λk b hb=> ?_) (b:=b) hb;refine .br (λh=> .ip λ_=> .bd λt ht=> ?_) λ_=> .ret ⟨b,hb,rfl⟩;have hk:k<5:=DE.1 (of_decide_eq_true h);have sw:=BG (n:=5) (by decide) hk;dsimp only;rw[sw];exact .brn (λ_=> .bd λ_ _=> .brn (λ_=> .ip λ_=> .bd λu hu=> .bd λy hy=> .bind (hP k u y.1 hu hy) λz hz=> .br (λhz2=> .brn (λ_=> .br (λ_=> .ret ⟨(z.1,true),rfl,λ_=>hz hz2⟩) λ_=> .ret ⟨b,rfl,hb⟩) λ_=> .ret ⟨(z.1,true),rfl,λ_=>hz hz2⟩) λ_=> .ret ⟨b,rfl,hb⟩) λ_=> .ret ⟨b,rfl,hb⟩) λ_=> .ret ⟨b,rfl,hb⟩
theorem XS(id:Int){c:nE}{d:Bool}(hla:Ef x.master=some (c,d,()))(hl:c.witnesses.length<=maxLen)(hP: ∀ (z:Int) w,z∈c.witnesses->x.servers[z.toNat]? =some w->w.up=true->w.config.epoch=c.epoch->EK x.sides id z=some (true,())->d=true-> ∀ (k:Nat) s b,x.servers[k]? =some s->G9 s (k:Int)=some (b,())->Ev (λy=>y.2.1=true->P y.1) (FZ b w.first w.log)):Ev (λy=>y.2.1=true->P y.1) (EP x id):=by
 unfold EP;rw[hla,ao];refine .bind (.count (B:=Fk) (E:=λe=>e.1.2.1=true->P e.2.2.1) (λk (b:List rj×Bool)=>((id,(),(),b.2,(),d,(k:Int),()),(fx x,(c.epoch,c.primary,(),(),()),()),b.1,c.replicas,c.witnesses,())) (λk b=>b.2=true->P b.1) (λk b hb=> ?_) (b:=([],false)) nofun) λe he=> .ret he;refine .br (λh=> .br (λhd=> .bd λ_ _=> .br (λ_=> .bd λ_ _=> .br (λ_=> .ip λ_=> .bd λz hz=> .ip λ_=> .bd λw hw=> ?_) λ_=> .ret hb) λ_=> .ret hb) λ_=> .ret hb) λ_=> .ret hb;have hk:k<c.witnesses.length:=DE.1 (of_decide_eq_true h);have hz:c.witnesses[k]? =some z:=hz;have sw:=BG hl hk;dsimp only;rw[sw];refine .brn (λhu=> .brn (λhe=> .ip λ_=> .bd λz2 hz2=> .bd λsd hsd=> .brn (λhs=> .bind (Zy P id (c:=c) (hP z w (aA hz) hw hu (eq_of_beq he) ?_ hd) k d b hb) ?_) λ_=> .ret ⟨b,rfl,hb⟩) λ_=> .ret ⟨b,rfl,hb⟩) λ_=> .ret ⟨b,rfl,hb⟩
 ·obtain rfl:z2=z:=Option.some.inj ((show c.witnesses[k]? =some z2 from hz2).symm.trans hz);exact (show EK x.sides id z2=some sd from hsd).trans (congrArg some (Prod.ext hs rfl))
 ·rintro _ ⟨r,hr,rfl⟩
  exact .ret ⟨r,by rw[<-sw],hr⟩
end
def Frm(x:qg)(id:Int):Prop:=∀o Mo,Ef x.master=some (o,true,())->EI o=some (Mo,())-> ∃z∈Mo,∃s,x.servers[z.toNat]? =some s/\s.up=true/\s.config.epoch=o.epoch/\EK x.sides id z=some (true,())
section
variable {x:qg} {G:Int->List rj} {H:List rj} (ok:Ew 1048576 x) (hv:Ea x=some (true,())) (h:KM x G H)
include ok hv h
theorem P9(id:Int):Ev (λy=>y.2.1=true->Pf H y.1/\Pf y.1 (G x.master.activated)/\Frm x id) (EP x id):=by
 obtain⟨c,d,d1,_,d3,d4,d5,d6⟩:=F6 x ok hv;refine XS (λl=>Pf H l/\Pf l (G x.master.activated)/\Frm x id) id d1 d3.2 λz w hz hw hu he hs hd k s b hs1 hs2=> ?_;obtain⟨cv,ce⟩:=d5 hd;have hc:w.config≠⟨0,0,[],[]⟩:=Nr (by have:=(Fc d3 cv).2.2.2.1;omega);refine (WS ok hv h ((Z3 ok hv h hs1) _ hs2) hw hc (he.trans ce)).mono λy hy e=>⟨(hy e).1,(hy e).2,λo Mo ho hM=> ?_⟩
 rw[d1] at ho;simp only[af,au,and_true] at ho;obtain⟨rfl,_⟩:=ho;obtain⟨M',m1,_,_,_,_,m6⟩:=Hc c d3;obtain rfl:M'=Mo:=(Prod.mk.inj (Option.some.inj (m1.symm.trans hM))).1;exact⟨z,(m6 cv z).2 (.inr hz),w,hw,hu,he,hs⟩
theorem Vp(id:Int):Ev (λy=>y.2.1=true->Pf H y.1/\Pf y.1 (G x.master.activated)/\Frm x id) (Fl x id):=by
 obtain⟨c,d,d1,_,d3,d4,d5,d6⟩:=F6 x ok hv;unfold Fl;refine .bd λ_ _=> .brn (λ_=> .bd λwd hwd=> .brn (λew=> .br (λh0=> .ret λ_=>⟨?_,.nil _,λo Mo ho=> ?_⟩) λh0=> .bd λn hn=> .br (λhge=> .ip λ_=> .bd λs hs=> .bind (Og _) λy hy=> .ret λ_=> ?_) λ_=> .bind (P9 ok hv h id) λy hy=> .ret hy) λ_=> .ret nofun) λ_=> .ret nofun
 ·rw[h.non (eq_of_beq h0)];exact .nil _
 ·have h0:x.master.activated=0:=eq_of_beq h0;rw[d1] at ho;simp only[af,au,and_true] at ho;have:=of_decide_eq_true (d4.symm.trans ho.2);omega
 ·have hge:0<=n.1:=of_decide_eq_true hge;have h0: ¬x.master.activated=0:=ne_of_beq_false h0
  have hw:Gp id 0 4=true:=by have hwd:Ei id 0 4=some wd:=hwd;rw[EF] at hwd;have:=Option.some.inj hwd;rw[<-this] at ew;exact ew
  have hw:=Ec.1 hw;obtain⟨S,s1,_,s3,s4⟩:=OW ok ok hv hv (.refl x) (id:=id) (by omega);have hn:FA x id=some n:=hn;have hb:=(WC x ok hv s1 s3 s4).is hn;have hnS:n.1∈S:=hb.2 λe=>by have:=hb.1 e;omega
  obtain⟨q1,t,q2,q3,q4,q5⟩:=(ZT ok d1 d3.1 id) _ s1 n.1 hnS;have hs:x.servers[n.1.toNat]? =some s:=hs;obtain rfl:t=s:=Option.some.inj (q2.symm.trans hs);obtain⟨f2,f3⟩:=(II (Ff ok.2.2.1) (El ok hv).ml).2;have hd:d=true:=by rw[d4];exact decide_eq_true (by omega)
  obtain⟨cv,ce⟩:=d5 hd;have hc:t.config≠⟨0,0,[],[]⟩:=Nr (by have:=(Fc d3 cv).2.2.2.1;omega);have htc:t.config=c:=YB ok hv (by rw[d1,hd]) hs q4;obtain⟨⟨j1,j2,j3⟩,_,j5⟩:=h.mem _ t hs hc;have he:t.config.epoch=x.master.activated:=q4.trans ce;obtain⟨sv,okt⟩:=JS ok hv hs;obtain⟨r,vs⟩:=OD okt sv.val hc;have hf:=vs.rep λh3=>XC (Ee okt.1) vs.role h3 (by rw[htc,DP hge];exact q1);rw[he,hf] at j2
  have hG:Pf t.log (G x.master.activated):=λi e hi=>by have:=j2 i e hi;rw[show (0:Int).toNat+i=i from aP i] at this;exact this
  have hy:y.1=t.log:=hy;rw[hy];refine⟨λi e hi=> ?_,hG,λo Mo ho hM=> ?_⟩
  ·have:=j5 he;have:=C5 hi;have hil:i<t.log.length:=by omega
   rw[aq hil];have h1:=hG i _ (aq hil);rw[h.act i e hi] at h1;exact h1.symm
  ·rw[d1] at ho;simp only[af,au,and_true] at ho;obtain⟨rfl,_⟩:=ho;obtain⟨M',m1,_,_,_,_,m6⟩:=Hc c d3;obtain rfl:M'=Mo:=(Prod.mk.inj (Option.some.inj (m1.symm.trans hM))).1;exact⟨n.1,(m6 cv _).2 (.inl q1),t,hs,q3,q4,q5⟩
end
theorem VU(x:qg)(ok:Ew 1048576 x):Ev (λy=>y.2.1=0\/y.1=x\/ ∃id e,EO x id e=some (y.1,())) (GC x):=by
 obtain⟨c,b,c1,_⟩:=SK x ok (x.master.configs.length:Int);unfold GC GK;rw[(EG x ok).1,ao,c1,ao,ao];refine .bd λv hv=> .brn (λ_=> .brn (λ_=> .br (λ_=> .ret (.inr (.inl rfl))) λ_=> .br (λ_=> .ret (.inr (.inl rfl))) λ_=> .ip λ_=> .bd λs hs=> .brn (λ_=> .ip λ_=> .bd λ_ _=> .brn (λ_=> .bd λ_ _=> .brn (λ_=> .bd λw hw=> .bd λl hl=> .brn (λ_=> .bd λm hm=> ?_) λ_=> .ret (.inr (.inr ⟨_,_,hw⟩))) λ_=> .ret (.inr (.inl rfl))) λ_=> .ret (.inr (.inl rfl))) λ_=> .ret (.inr (.inl rfl))) λ_=> .ret (.inr (.inl rfl))) λ_=> .ret (.inr (.inl rfl));refine .bind (.loop (B:=H3) (E:=Sum.elim (λe=> ∃n:Int,e=(((),(),n,(),(),(),(),()),(fx x,fc w.1,(fc w.1,(c.epoch,c.primary,(),(),()),())),l.1,m.1,w.1.servers,w.1.sides,w.1.master.configs,w.1.places,c.replicas,c.witnesses,())) λe=>e.2=((fx x,fz,fc w.1,(c.epoch,c.primary,(),(),()),()),l.1,m.1,w.1.servers,w.1.sides,w.1.master.configs,w.1.places,c.replicas,c.witnesses,())) (λs=>s.2=((fx x,fz,fc w.1,(c.epoch,c.primary,(),(),()),()),l.1,m.1,w.1.servers,w.1.sides,w.1.master.configs,w.1.places,c.replicas,c.witnesses,())) (λs hs=> ?_) rfl) λe he=> ?_
 ·obtain⟨a,b⟩:=s;obtain rfl:b=_:=hs;exact .br (λ_=> .ip λ_=> .bd λ_ _=> .ip λ_=> .bd λ_ _=> .brn (λ_=> .ip λ_=> .bd λ_ _=> .ip λ_=> .bd λ_ _=> .brn (λ_=> .ret rfl) λ_=> .ret ⟨_,rfl⟩) λ_=> .ret ⟨_,rfl⟩) λ_=> .ret rfl
 cases e with
 |inl e=>obtain⟨n,rfl⟩:=he;exact .ret (.inr (.inr ⟨_,_,hw⟩))
 |inr e=>
  show Ev _ ((Kn (((),(),(),(),(),(),0,()),e.2)).bind _);rw[show e.2=_ from he];refine .bind (.loop (B:=H4) (E:=Sum.elim (λe=> ∃n:Int,e=(((),(),n,(),(),(),(),()),(fx x,fc w.1,(fc w.1,(c.epoch,c.primary,(),(),()),())),l.1,m.1,w.1.servers,w.1.sides,w.1.master.configs,w.1.places,c.replicas,c.witnesses,())) λe=>e.2=((fx x,fz,fc w.1,(c.epoch,c.primary,(),(),()),()),l.1,m.1,w.1.servers,w.1.sides,w.1.master.configs,w.1.places,c.replicas,c.witnesses,())) (λs=>s.2=((fx x,fz,fc w.1,(c.epoch,c.primary,(),(),()),()),l.1,m.1,w.1.servers,w.1.sides,w.1.master.configs,w.1.places,c.replicas,c.witnesses,())) (λs hs=> ?_) rfl) λe he=> ?_
  ·obtain⟨a,b⟩:=s;obtain rfl:b=_:=hs;exact .br (λ_=> .ip λ_=> .bd λ_ _=> .ip λ_=> .bd λ_ _=> .br (λ_=> .bd λ_ _=> .br (λ_=> .ret ⟨_,rfl⟩) λ_=> .ret rfl) λ_=> .ret rfl) λ_=> .ret rfl
  cases e with
  |inl e=>obtain⟨n,rfl⟩:=he;exact .ret (.inr (.inr ⟨_,_,hw⟩))
  |inr e=>exact .bd λ_ _=> .bd λ_ _=> .ret (.inl rfl)
structure Rg (x:qg):Prop where
 ok:Ew 1048576 x
 valid:Ea x=some (true,())
 old:UD x
 hist: ∃G H,KM x G H
theorem Rg.kw{x y:qg}(h:Rg x)(k:Kw x y)(ok:Ew 1048576 y)(hv:Ea y=some (true,())):Rg y:=by obtain⟨G,H,hh⟩:=h.hist;exact⟨ok,hv,h.old.kw h.ok h.valid k,G,H,hh.kw k⟩
theorem Wy.kw{x y:qg}(hm:y.master=x.master)(hl:y.servers.length=x.servers.length)(h: ∀ (j:Nat) s,x.servers[j]? =some s-> ∃ep,y.servers[j]? =some (Ht s ep)/\s.epoch<=ep):Kw x y:=
 ⟨by rw[hm],λk t ht=>by have hlt:=C5 ht;rw[hl] at hlt;obtain⟨ep,e1,e2⟩:=h k _ (aq hlt);obtain rfl:=Option.some.inj (e1.symm.trans ht);exact⟨_,aq hlt,.inl ⟨rfl,e2,rfl,rfl,rfl,rfl⟩⟩⟩
theorem Pn{x:qg}(h:Rg x):Ev (λy=>Rg y.1) (GC x):=by
 intro y hy;have hok:=((N3 x h.ok).is hy).1;by_cases h0:y.2.1=0
 ·obtain⟨hv,c,M,l,a⟩:=VT x h.ok y hy h0;obtain⟨G,H,hh⟩:=h.hist;obtain⟨s1,s2,s3⟩:=Vp h.ok hv hh c.primary _ a.source rfl;obtain⟨c3,cv,ce,ca,hm,hat,m4,m6⟩:=a.cfg h.ok hv
  have hl:l.length<=maxLen:=by obtain⟨_,_,l',b',_,_,_,_,_,_,g,_,_,_,_,g2,_⟩:=RG x h.ok c.primary;rw[a.source] at g;simp only[af,au,and_true] at g;rw[g.1];unfold maxLen;omega
  obtain⟨w,w1,w2⟩:=a.sealed;obtain⟨w3,w4,w5⟩:=UA x h.ok _ _ _ w1;refine⟨hok,WA h.ok hv hok hl a.toAct0,h.old.install h.ok hv a (λk s hs hno=> ?_) λo Mo ho hM=> ?_,_,_,hh.install h.ok hv a s1 (s2.dst (hh.dst _))⟩
  ·obtain⟨ep,e1,e2⟩:=w5 k s hs;exact⟨ep,w2 k _ e1 hno,e2⟩
  ·obtain⟨z,hz,s,z1,z2,z3,z4⟩:=s3 o Mo ho hM;refine⟨z,hz,?_⟩;by_cases hq: ∃q∈M,q.toNat=z.toNat
   ·exact .inl hq
   ·refine .inr λt ht=> ?_;obtain⟨ep,e1,e2⟩:=w5 _ s z1;have e3:=w2 _ _ e1 λq hq1 hq2=>hq ⟨q,hq1,hq2⟩;obtain rfl:=Option.some.inj (e3.symm.trans ht);obtain⟨o',d',d1,_,d3,_⟩:=F6 x h.ok hv;rw[ho] at d1;simp only[af,au,and_true] at d1;obtain⟨rfl,rfl⟩:=d1;obtain⟨M',m1,_,m3',m4',_⟩:=Hc o d3;obtain rfl:M'=Mo:=(Prod.mk.inj (Option.some.inj (m1.symm.trans hM))).1;have hc1:=(Fc c3 cv).2.2.2.1;exact (ZR x h.ok hv ho d3 ⟨hc1,by omega⟩ hM m4' m3').is w1 z hz s z1 z2 z4 _ e1
 ·rcases VU x h.ok y hy with h1|h1| ⟨id,e,h1⟩
  ·exact absurd h1 h0
  ·rw[h1];exact h
  ·obtain⟨w,w1,_,w3,w4⟩:=Zi x h.ok id e;rw[h1] at w1;obtain rfl:y.1=w:=(Prod.mk.inj (Option.some.inj w1)).1;obtain⟨g1,g2,g3⟩:=UA x h.ok id e _ h1;exact h.kw (Wy.kw g1 g2 g3) hok (w4 h.valid).1
end
section
theorem Z5(l:List rj)(c q:Int)(hl:l.length<=maxLen):Ev (λy=>0<=y.1\/ ∀e∈l,¬ (e.op.client=c/\e.op.seq=q)) (Kv l c q):=by
 unfold Kv;refine .bind (.count (B:=I6) (E:=Sum.elim (λe=>0<=e.1.1) λ_=> ∀e∈l,¬ (e.op.client=c/\e.op.seq=q)) (λk (_:Unit)=>((l,c,q,(k:Int),()),(),())) (λk _=>k<=l.length/\ ∀ (j:Nat) e,j<k->l[j]? =some e-> ¬ (e.op.client=c/\e.op.seq=q)) (λk _ hJ=> ?_) (b:=()) ⟨bM _,λj e h=>absurd h (DQ j)⟩) λe he=> ?_
 ·refine .br (λh=> .ip λ_=> .bd λe he=> ?_) λh=> .ret λe he=> ?_
  ·have hk:k<l.length:=DE.1 (of_decide_eq_true h);have he:l[k]? =some e:=he;have sw:=BG hl hk
   have next: ¬ (e.op.client=c/\e.op.seq=q)->k+1<=l.length/\ ∀ (j:Nat) e,j<k+1->l[j]? =some e-> ¬ (e.op.client=c/\e.op.seq=q):=λhn=>⟨hk,λj f hj hf=>by
    by_cases hjk:j=k
    ·subst hjk;rw[he] at hf;exact Option.some.inj hf ▸ hn
    ·exact hJ.2 j f (by omega) hf⟩
   refine .br (λ_=> .ip λ_=> .bd λf hf=> .br (λ_=> .ret (DD k)) λh2=> .ret ⟨(),by rw[sw],next λhn=> ?_⟩) λh1=> .ret ⟨(),by rw[sw],next λhn=>absurd hn.1 (ne_of_beq_false h1)⟩;obtain rfl:f=e:=Option.some.inj ((show l[k]? =some f from hf).symm.trans he);exact ne_of_beq_false h2 hn.2
  ·have : ¬ ((k:Int)< (l.length:Int)):=of_decide_eq_false h;obtain⟨j,hj,rfl⟩:=aU he;exact hJ.2 j _ (by omega) (aq hj)
 ·cases e with
  |inl e=>exact .ret (.inl he)
  |inr e=>exact .ret (.inr he)
end
section
theorem WR(l:uK):Tt (λy=>y.1=true->l=⟨0,0,0⟩\/((1<=l.epoch/\l.epoch<=20)/\(0<=l.holder/\l.holder<=4)/\1<=l.ends/\l.ends<=1049)) (FF l):=by unfold FF;simp only[EF,ao];refine .br (λh=> .ret λ_=> .inl ?_) λ_=> .br (λh1=> .br (λh2=> .ret λh3=> .inr ⟨Ec.1 h1,Ec.1 h2,Ec.1 h3⟩) λ_=> .ret nofun) λ_=> .ret nofun;simp only[de,ak,beq_iff_eq] at h;obtain⟨e,h,n⟩:=l;simp only at h;obtain⟨rfl,rfl,rfl⟩:=h;rfl
def Gr(l:uK)(e h n:Int)(g:uK):Prop:=g.epoch=e/\g.holder=h/\(1<=e/\e<=20)/\(0<=h/\h<=4)/\(0<=n/\n<=999)/\n<g.ends/\g.ends<=1049/\(l.epoch=e->l.holder=h->l.ends<=g.ends)
theorem Zt(l:uK)(e h n t:Int):Tt (λy=>y.2.1=true->Gr l e h n y.1) (HP l e h n t):=by
 obtain⟨⟨b,_⟩,b1,b2⟩:=WR l;obtain⟨o,o1,_⟩:=ND l n;have no:Tt (λy:uK×Bool×Unit=>y.2.1=true->Gr l e h n y.1) (some (l,false,())):=.ret nofun;unfold HP;simp only[b1,o1,EF,ao,Eb];cases b with
 |false=>exact .br (λ_=>no) λ_=>no
 |true=>
  simp only[CG];have hl:=b2 rfl;cases h1:Gp e 1 20<;>cases h2:Gp h 0 4<;>cases h3:Gp n 0 999<;>cases h4:Gp t 1 50<;>simp only[CG,BI]<;>first |exact .br (λ_=>no) λ_=>no|skip
  have h1:=Ec.1 h1;have h2:=Ec.1 h2;have h3:=Ec.1 h3;have h4:=Ec.1 h4;rw[vM (n:=n+t) (by omega) (by omega)]
  have mine:l.epoch=e->Tt (λy:uK×Bool×Unit=>y.2.1=true->Gr l e h n y.1) (some (⟨e,h,if l.ends>n+t then l.ends else n+t⟩,true,())):=λhe=> .ret λ_=>by
   have hr:1<=l.ends/\l.ends<=1049:=by
    rcases hl with rfl|hl
    ·simp only at he;omega
    ·exact hl.2.2
   show Gr l e h n ⟨e,h,if l.ends>n+t then l.ends else n+t⟩;split
   ·exact⟨rfl,rfl,h1,h2,h3,by show n<l.ends;omega,hr.2,λ_ _=>cU _⟩
   ·exact⟨rfl,rfl,h1,h2,h3,by show n<n+t;omega,by show n+t<=1049;omega,λ_ _=>by show l.ends<=n+t;omega⟩
  have other: (l.epoch=e->l.holder=h->False)->Tt (λy:uK×Bool×Unit=>y.2.1=true->Gr l e h n y.1) (some (⟨e,h,n+t⟩,true,())):=λhn=> .ret λ_=>⟨rfl,rfl,h1,h2,h3,by show n<n+t;omega,by show n+t<=1049;omega,λa b=>(hn a b).elim⟩
  refine .br (λhe=> ?_) λhe=> ?_
  ·have he:l.epoch=e:=eq_of_beq he;refine .br (λ_=> .br (λ_=>mine he) λhh=>other λ_ a=>ne_of_beq_false hh a) λ_=> .br (λ_=> .br (λ_=>mine he) λhh=>other λ_ a=>ne_of_beq_false hh a) λ_=>no
  ·have he:l.epoch≠e:=ne_of_beq_false he;exact .br (λ_=>other λa _=>he a) λ_=>no
theorem Gr.ok{l g:uK}{e h n:Int}(hg:Gr l e h n g):Gx g=some (true,())/\H9 g n=some (false,())/\OZ g e h n=some (decide (n+3<g.ends),()):=by
 obtain⟨rfl,rfl,h1,h2,h3,h4,h5,_⟩:=hg;have hz: (g.ends==0)=false:=beq_eq_false_iff_ne.2 (by omega)
 have il:Gx g=some (true,()):=by unfold Gx;simp only[hz,D9,Bool.and_false,BI,IU,Ec.2 h1,Ec.2 h2,Ec.2 (show 1<=g.ends/\g.ends<=1049 by omega),ao,CG]
 refine⟨il,?_,?_⟩
 ·unfold H9 M2;simp only[il,IU,Ec.2 h3,ao,CG,Eb,hz,D9,Bool.and_false,BI,G2,CY];rw[vM (n:=g.ends+3) (by omega) (by omega)];simp only[show ¬g.ends=0 by omega,if_false,ao,decide_eq_false (show ¬n≥g.ends+3 by omega)]
 ·unfold OZ;simp only[il,IU,Ec.2 h3,ao,CG,Eb,hz,D9,Bool.and_false,BI,G2,if_true];rw[vM (n:=n+3) (by omega) (by omega)]
section
variable [dE]
end
end
section
theorem Gr.lease{l g:uK}{e h n:Int}(hg:Gr l e h n g):FF g=some (true,()):=by obtain⟨rfl,rfl,h1,h2,h3,h4,h5,_⟩:=hg;have hz: (g.epoch==0)=false:=beq_eq_false_iff_ne.2 (by omega);unfold FF;rw[hz,D9,BI,EF,Ec.2 h1,ao];show br true ((Ei g.holder 0 4).bind _) _=_;rw[CG,EF,Ec.2 h2,ao];show br true ((Ei g.ends 1 1049).bind _) _=_;rw[CG,EF,Ec.2 (show 1<=g.ends/\g.ends<=1049 by omega)];rfl
theorem ZP(x:qg)(ok:Ew 1048576 x)(id t:Int):Ev (λy=>y.2.1=0-> ∃L,y.1=⟨x.now,x.servers,x.sides,x.master,x.masterUp,L,x.places⟩/\FF L=some (true,())/\L.epoch<=x.master.activated) (F1 x id t):=by obtain⟨n,n1,n2⟩:=RE x ok id;unfold F1;rw[(EG x ok).1,ao,n1,ao];refine .brn (λen=> ?_) λhn=> .ret λh=>absurd h (ne_of_beq_false hn);obtain⟨hv,h0,h5⟩:=n2 (eq_of_beq en);have vc:=El ok hv;obtain⟨_,f2,_⟩:=II (Ff ok.2.2.1) vc.ml;refine .ip λ_=> .bd λs hs=> .bd λ_ _=> .brn (λ_=> .br (λ_=> .ret nofun) λ_=> .ip λ_=> .bd λ_ _=> .brn (λ_=> .brn (λ_=> .bd λy6 h6=> .brn (λe6=> .ret λ_=>⟨_,rfl,?_⟩) λ_=> .ret nofun) λ_=> .ret nofun) λ_=> .ret nofun) λ_=> .ret nofun;have hg:=(Zt x.lease s.config.epoch id x.now t).is h6 e6;have hlt:=C5 hs;have sv:=K1 ok hv _ hlt;have hs':=hs;rw[aq hlt] at hs';rw[Option.some.inj hs'] at sv;exact⟨hg.lease,by rw[hg.1];exact sv.old2 f2⟩
end
section
theorem Rg.set{x:qg}(h:Rg x){k:Nat}{s t:qj}(hs:x.servers[k]? =some s)(okt:ED 1048576 t)(sv:SV x.master t (k:Int))(hk: (t.config=s.config/\s.epoch<=t.epoch/\t.first=s.first/\t.log=s.log/\t.commit=s.commit/\t.learned=s.learned)\/(t.config=⟨0,0,[],[]⟩/\t.learned= [])):Rg (K2 x (x.servers.set k t)):=by
 have hlt:=C5 hs
 obtain⟨ok,hv⟩:=PS h.ok h.valid (x.servers.set k t) DI (λu hu=>(cX hu).elim (h.ok.1.2 u) λe=>e ▸ okt) λj hj=>by
  rw[D8];split
  ·next e=>subst e;exact sv
  ·exact K1 h.ok h.valid j (by rw[DI] at hj;exact hj)
 refine h.kw ⟨rfl,λj u hu=> ?_⟩ ok hv;have hu: (x.servers.set k t)[j]? =some u:=hu;by_cases e:k=j
 ·subst e;rw[DG hlt] at hu;obtain rfl:=Option.some.inj hu;exact⟨s,hs,hk⟩
 ·rw[DJ e] at hu;exact⟨u,hu,.inl ⟨rfl,cU _,rfl,rfl,rfl,rfl⟩⟩
theorem Rg.rest{x:qg}(h:Rg x)(n u:Int)(sd:List Int)(L:uK)(hn:0<=n/\n<=999)(hu:0<=u/\u<=3)(hsl:sd.length<=1048576)(hsd:Fj sd=some (true,()))(hL:FF L=some (true,()))(he:L.epoch<=x.master.activated):Rg ⟨n,x.servers,sd,x.master,u,L,x.places⟩:=by
 have vc:=El h.ok h.valid;have ok:Ew 1048576 (⟨n,x.servers,sd,x.master,u,L,x.places⟩:qg):=⟨h.ok.1,hsl,h.ok.2.2⟩
 exact h.kw ⟨rfl,λk t ht=>⟨t,ht,.inl ⟨rfl,cU _,rfl,rfl,rfl,rfl⟩⟩⟩ ok (QE ok hn vc.len hsd vc.ml hu hL vc.places he (show ∀k (hk:k<x.servers.length),SV x.master x.servers[k] (k:Int) from K1 h.ok h.valid))
theorem Tj{x:qg}(hv:Ea x=some (true,()))(ok:Ew 1048576 x):x.lease.epoch<=x.master.activated:=by obtain⟨b1,a1,_⟩:=Kr x.sides (Em ok.2.1);obtain⟨b2,m1,_⟩:=masterLog x.master (Ff ok.2.2.1);obtain⟨b3,l1,_⟩:=L6 x.lease;obtain⟨b4,p1,_⟩:=JU x.places (Em ok.2.2.2);unfold Ea at hv;simp only[EF,a1,m1,l1,p1,ao] at hv;refine Classical.byContradiction λhn=> ?_;have hd:decide (x.lease.epoch>x.master.activated)=true:=decide_eq_true (by omega);revert hv;simp only[hd];cases Gp x.now 0 999<;>cases ((x.servers.length:Int)==5)<;>cases b1<;>cases b2<;>cases Gp x.masterUp 0 3<;>cases b3<;>cases b4<;>intro hv<;>cases hv
theorem Zj{m:jY}{s:qj}{k:Int}(h:SV m s k){v:Int}(hv:1<=v/\v<=2):SV m ⟨s.up,s.intact,v,s.epoch,s.config,s.first,s.log,s.commit,s.learned⟩ k:=by refine⟨?_,h.ep,h.lrn,h.cfg⟩;have hs:=h.val;unfold Ed at hs ⊢;rw[EF,ao] at hs ⊢;rw[Ec.2 hv];rw[Ec.2 (RH h.val)] at hs;exact hs
theorem aae{m:jY}{s:qj}{k:Int}(oks:ED 1048576 s)(h:SV m s k)(h0:0<=m.activated){l:List rj}(hl:EL l=some (true,()))(hm:l.length<=maxLen)(ha: ∀e∈l,e.epoch<=m.activated):SV m ⟨s.up,s.intact,s.version,s.epoch,s.config,s.first,s.log,s.commit,l⟩ k:=by obtain⟨e,e1,_⟩:=GU l hm;refine⟨?_,h.ep,⟨e,e1,Ud h0 ha _ e1⟩,h.cfg⟩;have hs:=h.val;have f7:=(FO oks h.val).2.2.2.2.2.2.1;unfold Ed at hs ⊢;rw[f7] at hs;rw[hl];exact hs
theorem XQ{m:jY}(ok:NZ 1048576 m)(hm:Eo m=some (true,())){up:Bool}{v:Int}{k:Int}(hv:1<=v/\v<=2):SV m ⟨up,false,v,0,⟨0,0,[],[]⟩,0,[],0,[]⟩ k/\SV m ⟨up,true,v,0,⟨0,0,[],[]⟩,0,[],0,[]⟩ k:=by
 obtain⟨_,f2,_⟩:=II (Ff ok) hm
 have hl: ∃e,GS [] =some (e,())/\e<=m.activated:=by obtain⟨e,e1,_⟩:=GU [] (bM _);exact⟨e,e1,Ud f2 (λ_ h=>by cases h) _ e1⟩
 have val: ∀i:Bool,Ed ⟨up,i,v,0,⟨0,0,[],[]⟩,0,[],0,[]⟩ k=some (true,()):=λi=>by unfold Ed;simp only[EF,Ec.2 hv,N7,Ih (⟨0,0,[],[]⟩:nE) ⟨bM _,bM _⟩,ao];rfl
 exact⟨⟨val _,by show (0:Int)<=_;omega,hl,.inl rfl⟩,⟨val _,by show (0:Int)<=_;omega,hl,.inl rfl⟩⟩
theorem Zq{x:qg}(h:Rg x)(id:Int):Ev (λy=>Rg y.1) (Hp x id):=by unfold Hp;rw[(EG x h.ok).1,ao];refine .bd λ_ _=> .brn (λ_=> .ip λ_=> .bd λs hs=> .brn (λ_=> .ip λ_=> .bd λt ht=> .ret ?_) λ_=> .ret h) λ_=> .ret h;obtain⟨⟨a1,a2,a3,a4⟩,okt⟩:=JS h.ok h.valid ht;exact h.set ht (show ED 1048576 (upS t false) from okt) ⟨a1,a2,a3,a4⟩ (.inl ⟨rfl,cU _,rfl,rfl,rfl,rfl⟩)
theorem XA{x:qg}(h:Rg x)(id:Int):Ev (λy=>Rg y.1) (GG x id):=by unfold GG;rw[(EG x h.ok).1,ao];refine .bd λ_ _=> .brn (λ_=> .ip λ_=> .bd λs hs=> .br (λ_=> .ret h) λ_=> .ip λ_=> .bd λt ht=> .ret ?_) λ_=> .ret h;obtain⟨⟨a1,a2,a3,a4⟩,okt⟩:=JS h.ok h.valid ht;exact h.set ht (show ED 1048576 (upS t true) from okt) ⟨a1,a2,a3,a4⟩ (.inl ⟨rfl,cU _,rfl,rfl,rfl,rfl⟩)
theorem aac{x:qg}(h:Rg x)(id:Int):Ev (λy=>Rg y.1) (Ja x id):=by unfold Ja;rw[(EG x h.ok).1,ao];refine .bd λ_ _=> .brn (λ_=> .ip λ_=> .bd λs hs=> .bd λw hw=> .ip λ_=> .bd λt ht=> .ret ?_) λ_=> .ret h;have hs:x.servers[id.toNat]? =some s:=hs;have hw:some ((⟨s.up,false,s.version,0,⟨0,0,[],[]⟩,0,[],0,[]⟩:qj),())=some w:=hw;obtain rfl:=Option.some.inj hw;obtain⟨sv,oks⟩:=JS h.ok h.valid hs;exact h.set hs ⟨⟨bM _,bM _⟩,bM _,bM _⟩ (XQ h.ok.2.2.1 (El h.ok h.valid).ml (RH sv.val)).1 (.inr ⟨rfl,rfl⟩)
theorem XN{x:qg}(h:Rg x)(id:Int):Ev (λy=>Rg y.1) (GI x id):=by unfold GI;rw[(EG x h.ok).1,ao];refine .bd λ_ _=> .brn (λ_=> .ip λ_=> .bd λs hs=> .br (λ_=> .ret h) λ_=> .ip λ_=> .bd λ_ _=> .brn (λ_=> .ip λ_=> .bd λt ht=> .ret ?_) λ_=> .ret h) λ_=> .ret h;obtain⟨sv,okt⟩:=JS h.ok h.valid ht;exact h.set ht (show ED 1048576 (⟨t.up,t.intact,2,t.epoch,t.config,t.first,t.log,t.commit,t.learned⟩:qj) from okt) (Zj sv (by decide)) (.inl ⟨rfl,cU _,rfl,rfl,rfl,rfl⟩)
theorem Xp{x:qg}(h:Rg x)(n:Int):Ev (λy=>Rg y.1) (HU x n):=by have vc:=El h.ok h.valid;unfold HU;rw[(EG x h.ok).1,ao];refine .bd λ_ _=> .brn (λ_=> ?_) λ_=> .ret h;rw[EF,ao];exact .brn (λhw=> .ret (h.rest x.now n x.sides x.lease vc.now (Ec.1 hw) h.ok.2.1 vc.sides vc.lease (Tj h.valid h.ok))) λ_=> .ret h
theorem Zf{x:qg}(h:Rg x)(n:Int):Ev (λy=>Rg y.1) (Iq x n):=by have vc:=El h.ok h.valid;have hn:=vc.now;unfold Iq;rw[(EG x h.ok).1,ao];refine .bd λ_ _=> .brn (λ_=> ?_) λ_=> .ret h;rw[EF,ao,vM (n:=999-x.now) (by omega) (by omega)];refine .brn (λhw=> .ret ?_) λ_=> .ret h;have hw:=Ec.1 hw;rw[vM (n:=x.now+n) (by omega) (by omega)];exact h.rest (x.now+n) x.masterUp x.sides x.lease (by omega) vc.up h.ok.2.1 vc.sides vc.lease (Tj h.valid h.ok)
theorem Xy{x:qg}(h:Rg x)(id t:Int):Ev (λy=>Rg y.1) (F1 x id t):=by
 have vc:=El h.ok h.valid;intro y hy;by_cases h0:y.2.1=0
 ·obtain⟨L,e1,e2,e3⟩:=ZP x h.ok id t y hy h0;rw[e1];exact h.rest x.now x.masterUp x.sides L vc.now vc.up h.ok.2.1 vc.sides e2 e3
 ·have same:Ev (λy:qg×Int×Unit=>y.2.1≠0->y.1=x) (F1 x id t):=by
   unfold F1;rw[(EG x h.ok).1,ao];exact .bd λ_ _=> .brn (λ_=> .ip λ_=> .bd λ_ _=> .bd λ_ _=> .brn (λ_=> .br (λ_=> .ret λ_=>rfl) λ_=> .ip λ_=> .bd λ_ _=> .brn (λ_=> .brn (λ_=> .bd λ_ _=> .brn (λ_=> .ret λh=>absurd rfl h) λ_=> .ret λ_=>rfl) λ_=> .ret λ_=>rfl) λ_=> .ret λ_=>rfl) λ_=> .ret λ_=>rfl) λ_=> .ret λ_=>rfl
  rw[same y hy h0];exact h
theorem Rp{x:qg}(h:Rg x){n:nE}(hn:Gc 1048576 n):Ev (λy=>Rg y.1) (FQ x n):=by
 have vc:=El h.ok h.valid;intro y hy;have oky:=((Oa x h.ok n hn).is hy).1;rcases Xw x h.ok n y hy with e| ⟨_,e1,e2,e3⟩
 ·rw[e];exact h
 ·rw[e3] at oky ⊢;obtain⟨f1,f2,f3⟩:=II (Ff h.ok.2.2.1) vc.ml;have hml:=Sz h.ok.2.2.1 vc.ml;have hcn:=(Fc (Ee hn) e1).2.2.2.2.1
  have hm:Eo ⟨x.master.configs++ [n],x.master.activated⟩=some (true,()):=ZF (Ff oky.2.2.1).1 (λk hk=>by
   have hk:k< (x.master.configs++ [n]).length:=hk;rw[bJ,cy] at hk;show Eg ((x.master.configs++ [n])[k])=_/\((x.master.configs++ [n])[k]).epoch=_;by_cases hk2:k<x.master.configs.length
   ·rw[List.getElem_append_left hk2];exact f1 k hk2
   ·rw[List.getElem_append_right (by omega),List.getElem_singleton];exact⟨e1,by omega⟩) ⟨f2,by show x.master.activated<=(((x.master.configs++ [n]).length:Nat):Int);rw[bJ,cy];omega⟩
  refine h.kw ⟨rfl,λk t ht=>⟨t,ht,.inl ⟨rfl,cU _,rfl,rfl,rfl,rfl⟩⟩⟩ oky (QE oky vc.now vc.len vc.sides hm vc.up vc.lease vc.places (show x.lease.epoch<=x.master.activated from Tj h.valid h.ok) (show ∀k (hk:k<x.servers.length),SV ⟨x.master.configs++ [n],x.master.activated⟩ x.servers[k] (k:Int) fromλk hk=> ?_));obtain⟨a1,a2,a3,a4⟩:=K1 h.ok h.valid k hk;refine⟨a1,by show _<=(((x.master.configs++ [n]).length:Nat):Int);rw[bJ,cy];omega,a3,a4.imp id λ⟨b1,b2⟩=>⟨?_,b2⟩⟩;obtain⟨c',b',q1,_,_,q4,_⟩:=Im x.master x.servers[k].config.epoch h.ok.2.2.1 vc.ml;rw[b1] at q1;have q1:=Option.some.inj q1;have hb:b'=true:=(Prod.mk.inj (Prod.mk.inj q1).2).1.symm;rw[hb] at q4;rw[VZ x.master.configs n x.master.activated _ (by omega) vc.ml hm (Ec.1 q4.symm)];exact b1
theorem UD.same{x y:qg}(h:UD x)(hA:y.master.activated=x.master.activated)(k: ∀ (k:Nat) t,y.servers[k]? =some t-> ∃s,x.servers[k]? =some s/\t.config=s.config/\t.epoch=s.epoch):UD y:=by intro j p hp hc he M hM;obtain⟨s,s1,s2,_⟩:=k j p hp;rw[s2] at hc he hM ⊢;rw[hA] at he;obtain⟨m,hm,hn⟩:=h j s s1 hc he M hM;refine⟨m,hm,λt ht hh=> ?_⟩;obtain⟨u,u1,u2,u3⟩:=k _ t ht;rw[u2,u3] at hh;exact hn u u1 hh
theorem aap{x y:qg}(h:Rg x){id m:Int}(hp:Pu x y id m):Rg y:=by obtain⟨ok,hv⟩:=Wq h.ok hp;obtain⟨G,H,hh⟩:=h.hist;exact⟨ok,hv,h.old.push h.ok hp,G,H,hh.push h.ok hp⟩
theorem KM.learn{x:qg}{G:Int->List rj}{H:List rj}(h:KM x G H){k:Nat}{s:qj}(hs:x.servers[k]? =some s){l:List rj}(hl:Pf l H):KM (K2 x (x.servers.set k ⟨s.up,s.intact,s.version,s.epoch,s.config,s.first,s.log,s.commit,l⟩)) G H:=by
 have all: ∀ (j:Nat) t,(x.servers.set k (⟨s.up,s.intact,s.version,s.epoch,s.config,s.first,s.log,s.commit,l⟩:qj))[j]? =some t-> ∃u,x.servers[j]? =some u/\t.config=u.config/\t.first=u.first/\t.log=u.log/\t.commit=u.commit/\Pf t.learned H:=λj t ht=>by
  by_cases e:k=j
  ·subst e;rw[DG (C5 hs)] at ht;obtain rfl:=Option.some.inj ht;exact⟨s,hs,rfl,rfl,rfl,rfl,hl⟩
  ·rw[DJ e] at ht;exact⟨t,ht,rfl,rfl,rfl,rfl,h.lrn j t ht⟩
 refine⟨λj t ht hc=> ?_,h.dst,λj t ht=> ?_,h.act,h.non⟩
 ·obtain⟨u,u1,u2,u3,u4,u5,_⟩:=all j t ht;obtain⟨⟨a1,a2,a3⟩,b,c⟩:=h.mem j u u1 (u2 ▸ hc);rw[u2];exact⟨⟨by rw[u3,u4];exact a1,by rw[u3,u4];exact a2,by rw[u5];exact a3⟩,λe=>by rw[u4];exact b e,λe=>by rw[u3,u4];exact c e⟩
 ·obtain⟨u,_,_,_,_,_,u6⟩:=all j t ht;exact u6
theorem aat{c:nE}{y n:Int}(h:Gc maxLen c)(hn:EJ c y=some (n,()))(h3:n=1\/n=2):y∈c.replicas:=by obtain⟨v,v1,_⟩:=Gu c h;unfold EJ at hn;simp only[v1,(Ey c.replicas y h.1).1,(Ey c.witnesses y h.2).1,ao,Eb] at hn;have no: ∀ {P:Prop} {k:Int},¬ (k=1\/k=2)->some (k,())=some (n,())->P:=λhk e=>absurd h3 ((Prod.mk.inj (Option.some.inj e)).1 ▸ hk);refine Mw hn (λhv hn=>Mw hn (λhe _=> ?_) λ_ hn=>Mw hn (λh _=>of_decide_eq_true h) λ_ hn=>Mw hn (λ_=>no (by decide)) λ_=>no (by decide)) λ_=>no (by decide);subst hv;rw[eq_of_beq he];exact (Fc h v1).2.2.1
theorem Rg.learn{x:qg}(h:Rg x){k:Nat}{s:qj}(hs:x.servers[k]? =some s){l:List rj}(hl: ∀G H,KM x G H->Pf l H)(hg:EL l=some (true,()))(hm:l.length<=1048576)(ha: ∀e∈l,e.epoch<=x.master.activated):Rg (K2 x (x.servers.set k ⟨s.up,s.intact,s.version,s.epoch,s.config,s.first,s.log,s.commit,l⟩)):=by
 have hlt:=C5 hs;obtain⟨_,f2,_⟩:=II (Ff h.ok.2.2.1) (El h.ok h.valid).ml;obtain⟨sv,oks⟩:=JS h.ok h.valid hs;have okt:ED 1048576 ⟨s.up,s.intact,s.version,s.epoch,s.config,s.first,s.log,s.commit,l⟩:=⟨oks.1,oks.2.1,hm⟩
 obtain⟨ok,hv⟩:=PS h.ok h.valid (x.servers.set k ⟨s.up,s.intact,s.version,s.epoch,s.config,s.first,s.log,s.commit,l⟩) DI (λu hu=>(cX hu).elim (h.ok.1.2 u) λe=>e ▸ okt) λj hj=>by
  rw[D8];split
  ·next e=>subst e;exact aae oks sv f2 hg (Em hm) ha
  ·exact K1 h.ok h.valid j (by rw[DI] at hj;exact hj)
 obtain⟨G,H,hh⟩:=h.hist;refine⟨ok,hv,h.old.same rfl λj t ht=> ?_,G,H,hh.learn hs (hl G H hh)⟩;have ht: (x.servers.set k (⟨s.up,s.intact,s.version,s.epoch,s.config,s.first,s.log,s.commit,l⟩:qj))[j]? =some t:=ht;by_cases e:k=j
 ·subst e;rw[DG hlt] at ht;obtain rfl:=Option.some.inj ht;exact⟨s,hs,rfl,rfl⟩
 ·rw[DJ e] at ht;exact⟨t,ht,rfl,rfl⟩
theorem Zn{x:qg}(h:Rg x)(a b n:Int):Ev (λy=>Rg y.1) (Ho x a b n):=by
 have vc:=El h.ok h.valid
 have left:Ev (λy=>0<=y.1-> ∃s,x.servers[a.toNat]? =some s/\a∈s.config.replicas/\0<=a) (Hn x a b):=by
  unfold Hn;refine .bind (Q:=λv=>v.1=true-> ∃s,x.servers[a.toNat]? =some s/\a∈s.config.replicas/\0<=a) ?_ λv hv=> .brn (λe=> .ip λ_=> .bd λ_ _=> .bd λ_ _=> .ip λ_=> .bd λ_ _=> .ip λ_=> .bd λ_ _=> .bd λ_ _=> .bd λ_ _=> .brn (λ_=> .ret λ_=>hv e) λ_=> .ret λ_=>hv e) λ_=> .ret λh=>absurd h (by decide);unfold Jm;refine .bd λ_ _=> .brn (λ_=> .bd λ_ _=> .brn (λ_=> .br (λ_=> .ret nofun) λ_=> .ip λh0=> .bd λs hs=> .bd λr hr=> .br (λ_=> .ip λ_=> .bd λ_ _=> .br (λ_=> ?_) λ_=> .ret nofun) λ_=> .ret nofun) λ_=> .ret nofun) λ_=> .ret nofun;have hs:x.servers[a.toNat]? =some s:=hs;have hr:EJ s.config a=some (r.1,()):=hr;have okc:=Ee (JS h.ok h.valid hs).2.1;have good: ∀d:Bool,r.1=1\/r.1=2->Ev (λv:Bool×Unit=>v.1=true-> ∃s,x.servers[a.toNat]? =some s/\a∈s.config.replicas/\0<=a) (some (d,())):=λd hd=> .ret λ_=>⟨s,hs,aat okc hr hd,h0⟩
  exact .br (λe1=> .br (λ_=> .bd λm _=>good _ (.inl (eq_of_beq e1))) λ_=> .ret nofun) λ_=> .br (λe2=> .br (λ_=> .bd λm _=>good _ (.inr (eq_of_beq e2))) λ_=> .ret nofun) λ_=> .ret nofun
 unfold Ho;rw[(EG x h.ok).1,ao];refine .bind left λy hy=> .br (λ_=> .ret h) λhneg=> .bd λ_ _=> .brn (λ_=> .ip λ_=> .bd λs hs=> .bd λl hl=> .ip λ_=> .ip λ_=> .bind (Og _) λq hq=> .ip λ_=> .bd λu hu=> .ret ?_) λ_=> .ret h;have hneg: ¬y.1<0:=of_decide_eq_false hneg;obtain⟨s',s1,s2,s3⟩:=hy (by omega);obtain rfl:s'=s:=Option.some.inj (s1.symm.trans hs);obtain⟨sv,oks⟩:=JS h.ok h.valid s1;have hl:EE s'=some l:=hl;rw[(Ss s' a oks (by have:=sv.val;rw[DP s3] at this;exact this)).1] at hl;obtain rfl:=Option.some.inj hl;obtain⟨_,_,f3,_,_,f6,_⟩:=FO oks sv.val
 have hm: (KW s').length<=16/\EL (KW s')=some (true,()):=by
  unfold KW;split
  ·exact⟨by rw[cP];omega,QJ (by unfold maxLen;omega) f6 _⟩
  ·exact⟨bM _,N7⟩
 obtain⟨m,hq2⟩: ∃m,q.1=(KW s').take m:=⟨_,by rw[hq];rfl⟩
 have hx:Rg (K2 x (x.servers.set b.toNat ⟨u.up,u.intact,u.version,u.epoch,u.config,u.first,u.log,u.commit,q.1⟩)):=by
  have hlen:q.1.length<=16:=by rw[hq2,cP];omega
  refine h.learn (show x.servers[b.toNat]? =some u from hu) (λG H hh i e hi=> ?_) (by rw[hq2];exact QJ (by unfold maxLen;omega) hm.2 _) (by omega) λe he=> ?_
  ·rw[hq2] at hi;have hpf:=Ze h.ok h.valid hh s1 (by rw[DP s3];exact s2);have hlt:=C5 hi;rw[cP] at hlt;rw[D7 (by omega)] at hi;exact hpf i e hi
  ·rw[hq2] at he;have he:=bS he;refine UJ h.ok h.valid s1 e (.inr ?_);unfold KW at he;split at he
   ·exact bS he
   ·cases he
 exact hx
theorem UL{x:qg}(h:Rg x)(id:Int):Ev (λy=>Rg y.1) (FX x id):=by
 unfold FX;rw[(EG x h.ok).1,ao];refine .bd λ_ _=> .brn (λ_=> .ip λ_=> .bd λ_ _=> .br (λ_=> .ret h) λ_=> .ip λ_=> .bd λ_ _=> .brn (λ_=> .ip λ_=> .bd λs hs=> .bd λ_ _=> .br (λ_=> .ret h) λ_=> .bind (.loop (B:=Gq) (E:=Sum.elim (λe=> ∃n:Int,e=((id,(),n,(),()),(fc x,fc x,()),x.servers,x.sides,x.master.configs,x.places,())) λe=>e=((id,(),(),(),()),(fz,fc x,()),x.servers,x.sides,x.master.configs,x.places,())) (λs=>s.1.1=id/\s.2.1.1=fx x/\s.2.1.2.1=fz/\s.2.1.2.2.1=fc x/\s.2.2=(x.servers,x.sides,x.master.configs,x.places,())) (λt ht=> ?_) ⟨rfl,rfl,rfl,rfl,rfl⟩) λe he=> ?_) λ_=> .ret h) λ_=> .ret h
 ·obtain⟨⟨a1,a2⟩,⟨b1,b2,b3,b4⟩,c⟩:=t;obtain⟨i1,i2,i3,i4,i5⟩:=ht;obtain rfl:a1=id:=i1;obtain rfl:b1=fx x:=i2;obtain rfl:b2=fz:=i3;obtain rfl:b3=fc x:=i4;obtain rfl:c=_:=i5;exact .br (λ_=> .bd λ_ _=> .brn (λ_=> .ret rfl) λ_=> .ip λ_=> .bd λ_ _=> .bd λ_ _=> .br (λ_=> .ip λ_=> .bd λ_ _=> .bd λ_ _=> .br (λ_=> .ret ⟨_,rfl⟩) λ_=> .ret ⟨rfl,rfl,rfl,rfl,rfl⟩) λ_=> .ret ⟨rfl,rfl,rfl,rfl,rfl⟩) λ_=> .ret rfl
 ·cases e with
  |inl e=>obtain⟨n,rfl⟩:=he;exact .ret h
  |inr e=>obtain rfl:=he;refine .ip λ_=> .bd λt ht=> .ret ?_;obtain⟨sv,okt⟩:=JS h.ok h.valid ht;exact h.set ht (show ED 1048576 (⟨t.up,t.intact,1,t.epoch,t.config,t.first,t.log,t.commit,t.learned⟩:qj) from okt) (Zj sv (by decide)) (.inl ⟨rfl,cU _,rfl,rfl,rfl,rfl⟩)
theorem VP(l:List Int)(h5:l.length=5)(h: ∀z∈l,0<=z/\z<=3):Tt (λy=>y.1=true) (Fj l):=by
 unfold Fj;refine .bind (.count (B:=He) (E:=Sum.elim (λ_=>False) λe=>e=((l,(),()),(),())) l.length (λk (_:Unit)=>((l,(k:Int),()),(),())) (λ_ _=>True) (λ_ _=> .end (DH _) (.ret rfl)) (λk _ hk _=> ?_) () trivial) λe he=> ?_
 ·refine .go (DE.2 hk) (.ip (DD k) (.get (tn hk) λz _ hz=> ?_));rw[EF,Ec.2 (h z hz),ao];exact .ret ⟨(),by rw[BG (by rw[h5];decide) hk],trivial⟩
 ·cases e with
  |inl e=>exact he.elim
  |inr e=>obtain rfl:=he;exact .ret (by show ((l.length:Int)==5)=true;rw[h5];rfl)
theorem Yq{l:List Int}(hl:l.length<=maxLen)(hv:Fj l=some (true,())): ∀z∈l,0<=z/\z<=3:=by
 have fA:Ev (λy=>y.1=true-> ∀z∈l,0<=z/\z<=3) (Fj l):=by
  unfold Fj;refine .bind (.count (B:=He) (E:=Sum.elim (λe=>e.1.2.1=false) λ_=> ∀z∈l,0<=z/\z<=3) (λk (_:Unit)=>((l,(k:Int),()),(),())) (λk _=>k<=l.length/\ ∀ (j:Nat) z,j<k->l[j]? =some z->0<=z/\z<=3) (λk _ hJ=> ?_) (b:=()) ⟨bM _,λj z h=>absurd h (DQ j)⟩) λe he=> ?_
  ·refine .br (λh=> .ip λ_=> .bd λz hz=> ?_) λh=> .ret λz hz=> ?_
   ·have hk:k<l.length:=DE.1 (of_decide_eq_true h);have hz:l[k]? =some z:=hz;rw[EF,ao];refine .brn (λhw=> .ret ⟨(),by rw[BG hl hk],hk,λj z' hj hz'=> ?_⟩) λ_=> .ret rfl;by_cases hjk:j=k
    ·subst hjk;obtain rfl:=Option.some.inj (hz.symm.trans hz');exact Ec.1 hw
    ·exact hJ.2 j z' (by omega) hz'
   ·have : ¬ ((k:Int)< (l.length:Int)):=of_decide_eq_false h;obtain⟨j,hj,rfl⟩:=aU hz;exact hJ.2 j _ (by omega) (aq hj)
  ·cases e with
   |inl e=>exact .ret λh=>by rw[show e.1.2.1=false from he] at h;cases h
   |inr e=>exact .ret λ_=>he
 exact fA _ hv rfl
theorem aak{x:qg}(h:Rg x)(a b:Int):Ev (λy=>Rg y.1) (HQ x a b):=by
 have vc:=El h.ok h.valid;have h5:=JQ (Em h.ok.2.1) vc.sides;have hu:=Yq (Em h.ok.2.1) vc.sides
 have hm:Ev (λy=>Fj y.1=some (true,())/\y.1.length=5) (Jb x.sides a b):=by
  unfold Jb;rw[bF];refine .ip λ_=> .bd λ_ _=> .brn (λ_=> .bd λ_ _=> .brn (λ_=> ?_) λ_=> .ret ⟨vc.sides,h5⟩) λ_=> .ret ⟨vc.sides,h5⟩;rw[EF,ao];refine .brn (λhw=> .ip λ_=> .bd λ_ _=> .ret ?_) λ_=> .ret ⟨vc.sides,h5⟩;have hl: (x.sides.set a.toNat b).length=5:=by rw[DI,h5]
  obtain⟨v,v1,v2⟩:=VP (x.sides.set a.toNat b) hl λz hz=>(cX hz).elim (hu z) λe=>e ▸ Ec.1 hw;exact⟨v1.trans (congrArg some (Prod.ext v2 rfl)),hl⟩
 unfold HQ;rw[(EG x h.ok).1,ao];exact .bind hm λy hy=> .bd λ_ _=> .brn (λ_=> .brn (λ_=> .ret (h.rest x.now x.masterUp y.1 x.lease vc.now vc.up (by rw[hy.2];decide) hy.1 vc.lease (Tj h.valid h.ok))) λ_=> .ret h) λ_=> .ret h
end
section
theorem WB(x:qg)(ok:Ew 1048576 x)(id:Int)(o:Op):Ev (λy=>y.1=x\/ ∃s,0<=id/\x.servers[id.toNat]? =some s/\Er s id=some (true,())/\EH o=some (true,())/\(∀e∈s.log,¬ (e.op.client=o.client/\e.op.seq=o.seq))/\(s.log.length:Int)≠16/\y.1=K2 x (x.servers.set id.toNat ⟨s.up,s.intact,s.version,s.epoch,s.config,s.first,s.log++ [⟨s.epoch,o⟩],s.commit,s.learned⟩)) (FD x id o):=by
 unfold FD;rw[(EG x ok).1,ao];generalize hQ: (λy:qg×Int×Unit=>y.1=x\/ ∃s,0<=id/\x.servers[id.toNat]? =some s/\Er s id=some (true,())/\EH o=some (true,())/\(∀e∈s.log,¬ (e.op.client=o.client/\e.op.seq=o.seq))/\(s.log.length:Int)≠16/\y.1=K2 x (x.servers.set id.toNat ⟨s.up,s.intact,s.version,s.epoch,s.config,s.first,s.log++ [⟨s.epoch,o⟩],s.commit,s.learned⟩))=Q;have bad: ∀n:Int,Ev Q (some (x,n,())):=λn=>hQ ▸ .ret (.inl rfl);refine .bd λv hv=> .brn (λev=> .bd λ_ _=> .brn (λ_=> .bd λw hw=> .brn (λew=> .ip λh0=> .bd λs hs=> .brn (λ_=> .bd λp hp=> .brn (λep=> .bd λn hn=> ?_) λ_=>bad 3) λ_=>bad 2) λ_=>bad 1) λ_=>bad 1) λ_=>bad 1;have hs:x.servers[id.toNat]? =some s:=hs;have hl:=Em (ok.1.2 s (aA hs)).2.1
 have hf:0<=n.1\/ ∀e∈s.log,¬ (e.op.client=o.client/\e.op.seq=o.seq):=Z5 s.log o.client o.seq hl n (by have hn:=hn;exact hn)
 have hop:EH o=some (true,()):=(show EH o=some w from hw).trans (congrArg some (Prod.ext ew rfl))
 have hpn:Er s id=some (true,()):=by have hp:Er s id=some p:=hp;exact hp.trans (congrArg some (Prod.ext ep rfl))
 extract_lets+lift j17 j18
 have h17: ¬0<=n.1->(s.log.length:Int)≠16->Ev Q j17:=λhn0 h16=>by unfold j17;refine .ip λ_=> .bd λa ha=> .bd λb hb=> .ip λ_=> .ite (λ_=> .no) λ_=> .ip λ_=> .ip λ_=> .bd λd hd=> .ip λ_=> .ret ?_;obtain rfl:a=s:=Option.some.inj ((show x.servers[id.toNat]? =some a from ha).symm.trans hs);obtain rfl:b=a:=Option.some.inj ((show x.servers[id.toNat]? =some b from hb).symm.trans hs);obtain rfl:d=b:=Option.some.inj ((show x.servers[id.toNat]? =some d from hd).symm.trans hs);rw[<-hQ];refine .inr ⟨d,h0,hs,hpn,hop,hf.resolve_left hn0,h16,?_⟩;show (⟨x.now,x.servers.set id.toNat _,x.sides,x.master,x.masterUp,x.lease,x.places⟩:qg)=_;rw[DK]
 have h18: ¬0<=n.1->Ev Q j18:=λhn0=>by unfold j18;refine .bd λ_ _=> .bd λ_ _=> .brn (λ_=> .bd λ_ _=> .br (λ_=> .bd λ_ _=> .br (λ_=>bad 6) λ_=> .br (λ_=>bad 5) λh=>h17 hn0 (ne_of_beq_false h)) λ_=> .br (λ_=>bad 5) λh=>h17 hn0 (ne_of_beq_false h)) λ_=>bad 11
 exact .br (λh=> .ip λ_=> .bd λe _=> .brn (λ_=> .br (λh=>bad 0) λh=>h18 (of_decide_eq_false h)) λ_=>bad 11) λh=> .br (λh=>bad 0) λh=>h18 (of_decide_eq_false h)
theorem XV{x:qg}(h:Rg x)(id:Int)(o:Op):Ev (λy=>Rg y.1) (FD x id o):=by
 refine (WB x h.ok id o).mono λy hy=> ?_;rcases hy with e| ⟨s,h0,hs,hpn,hop,hn,h16,e⟩
 ·rw[e];exact h
 obtain⟨sv,oks⟩:=JS h.ok h.valid hs;have pf:=Hk oks hpn;have hce:=(Fc (Ee oks.1) pf.1).2.2.2;have hc:s.config≠⟨0,0,[],[]⟩:=Nr hce.1;have hep:=SC oks hpn;obtain⟨n,vs⟩:=OD oks sv.val hc;obtain⟨n',n1,_,_,n4⟩:=Nd s.config id (Ee oks.1) pf.1;have hr:=vs.role;rw[DP h0,n1] at hr;obtain rfl:n'=n:=(Prod.mk.inj (Option.some.inj hr)).1;have hn3:n'≠3:=λh3=>n4 h3 pf.2;have hf:=vs.rep hn3;have hl:=vs.len
 have hlog:EL (s.log++ [⟨s.epoch,o⟩])=some (true,()):=by
  have hm:s.log.length<=maxLen:=by unfold maxLen;omega
  obtain⟨g1,g2⟩:=(IT s.log hm).1 vs.log;refine (IT _ (by rw[bJ,cy];unfold maxLen;omega)).2 ⟨by rw[bJ,cy];omega,λk hk=> ?_⟩;rw[bJ,cy] at hk;by_cases hk2:k<s.log.length
  ·have h2:=g2 k hk2;unfold Q7 at h2 ⊢;rw[aW hk2,aW (show k-1<s.log.length by omega)];exact h2
  ·obtain rfl:k=s.log.length:=by omega
   have e2:XU o=true:=by rw[Mv] at hop;exact (Prod.mk.inj (Option.some.inj hop)).1
   unfold Q7;rw[D5];show (Gp s.epoch 1 20&&(XU o&&(decide (s.log.length=0)||_)))=true;rw[Ec.2 (show 1<=s.epoch/\s.epoch<=20 by have:=vs.ep.2;omega),e2];by_cases h0:s.log.length=0
   ·rw[decide_eq_true h0];rfl
   ·have hlt:s.log.length-1<s.log.length:=by omega
    have ha:=vs.all _ (DF hlt);rw[aW hlt,aq hlt];show (true&&(true&&(decide (s.log.length=0)|| !decide (s.log[s.log.length-1].epoch>s.epoch))))=true;rw[decide_eq_false (show ¬s.log[s.log.length-1].epoch>s.epoch by omega),decide_eq_false h0];rfl
 have okt:ED 1048576 ⟨s.up,s.intact,s.version,s.epoch,s.config,s.first,s.log++ [⟨s.epoch,o⟩],s.commit,s.learned⟩:=⟨oks.1,by show (s.log++ [_]).length<=_;rw[bJ,cy];omega,oks.2.2⟩
 have vt:Vs ⟨s.up,s.intact,s.version,s.epoch,s.config,s.first,s.log++ [⟨s.epoch,o⟩],s.commit,s.learned⟩ ((id.toNat:Nat):Int) n':=⟨vs.ver,vs.ep,hlog,vs.lrn,vs.first,by show s.first+(((s.log++ [_]).length:Nat):Int)<=16;rw[bJ,cy];omega,⟨vs.commit.1,by show s.commit<=s.first+(((s.log++ [_]).length:Nat):Int);rw[bJ,cy];have:=vs.commit.2;omega⟩,hc,vs.intact,vs.le,λe he=>(bC.1 he).elim (vs.all e) λhe=>by rw[aL.1 he];exact Int.le_of_eq hep,vs.role,vs.in',λh3=>absurd h3 hn3,λ_=>hf⟩
 have svt:SV x.master ⟨s.up,s.intact,s.version,s.epoch,s.config,s.first,s.log++ [⟨s.epoch,o⟩],s.commit,s.learned⟩ ((id.toNat:Nat):Int):=⟨XL okt vt (by show 0<=s.config.epoch;omega),sv.ep,sv.lrn,sv.cfg⟩
 obtain⟨ok,hv⟩:=PS h.ok h.valid (x.servers.set id.toNat _) DI (λu hu=>(cX hu).elim (h.ok.1.2 u) λe=>e ▸ okt) λj hj=>by
  rw[D8];split
  ·next e=>subst e;exact svt
  ·exact K1 h.ok h.valid j (by rw[DI] at hj;exact hj)
 obtain⟨G,H,hh⟩:=h.hist;obtain⟨G',hG⟩:=hh.append h.ok h.valid h0 hs hc pf.2.symm ⟨s.epoch,o⟩ hn;rw[e];refine⟨ok,hv,h.old.same rfl λj t ht=> ?_,G',H,hG⟩;have ht: (x.servers.set id.toNat (⟨s.up,s.intact,s.version,s.epoch,s.config,s.first,s.log++ [⟨s.epoch,o⟩],s.commit,s.learned⟩:qj))[j]? =some t:=ht;by_cases e:id.toNat=j
 ·subst e;rw[DG (C5 hs)] at ht;obtain rfl:=Option.some.inj ht;exact⟨s,hs,rfl,rfl⟩
 ·rw[DJ e] at ht;exact⟨t,ht,rfl,rfl⟩
def Mk(S T:List qj)(p:qj):Prop:=T.length=S.length/\ ∀ (j:Nat) t,T[j]? =some t-> ∃s n,S[j]? =some s/\t=⟨s.up,s.intact,s.version,s.epoch,s.config,s.first,s.log,n,s.learned⟩/\(n=s.commit\/(n=(p.log.length:Int)/\s.config=p.config))
theorem Vt{x:qg}(h:Rg x)(id:Int):Ev (λy=>Rg y.1) (F7 x id):=by
 obtain⟨b,b1,_,b2⟩:=J9 x h.ok id;unfold F7;rw[(EG x h.ok).1,ao,b1,ao];refine .brn (λeb=> .ip λ_=> .bd λs hs=> .bd λM hM=> ?_) λ_=> .ret h;obtain⟨_,h0,h5,hp⟩:=b2 eb;have hs:x.servers[id.toNat]? =some s:=hs;have hpn:=hp s hs;have oks:=(JS h.ok h.valid hs).2;obtain⟨M',m1,_,m3,m4,m5,m6⟩:=Hc s.config (Ee oks.1);obtain rfl:M=(M',()):=Option.some.inj ((show EI s.config=some M from hM).symm.trans m1);have mm:M'.length<=maxLen:=by unfold maxLen;omega
 refine .bind (.count (B:=Hf) (E:=λe=> ∃ (c:qg) (a:Bool),Rg c/\Ck x c/\c.servers[id.toNat]? =some s/\(a=true-> ∀m∈M',Sm c s.log m/\ ∀t,c.servers[m.toNat]? =some t->t.config=s.config/\t.epoch=s.epoch)/\e=((id,(),(),(),a,()),(fz,fc c,()),M',c.servers,c.sides,c.master.configs,c.places,())) (λk (b:qg×Bool)=>((id,(),(),(),b.2,(k:Int),()),(fz,fc b.1,()),M',b.1.servers,b.1.sides,b.1.master.configs,b.1.places,())) (λk b=>k<=M'.length/\Rg b.1/\Ck x b.1/\b.1.servers[id.toNat]? =some s/\(b.2=true-> ∀ (j:Nat) m,j<k->M'[j]? =some m->Sm b.1 s.log m/\ ∀t,b.1.servers[m.toNat]? =some t->t.config=s.config/\t.epoch=s.epoch)) (λk b hJ=> ?_) (b:=(x,true)) ⟨bM _,h,.self x,hs,λ_ j m h=>absurd h (DQ j)⟩) ?_
 ·obtain⟨c,a⟩:=b;obtain⟨_,jI,jC,jp,ja⟩:=hJ;refine .br (λhk=> .ip λ_=> .bd λz hz=> ?_) λhk=> .ret ⟨c,a,jI,jC,jp,λe m hm=> ?_,rfl⟩
  ·have hk:k<M'.length:=DE.1 (of_decide_eq_true hk);have hz:M'[k]? =some z:=hz;have sw:=BG mm hk;refine .bind ((aao c jI.ok id z).and λy hy=>(ZL c jI.ok id z).is hy) λw hw=> ?_;obtain⟨hw1,_,hw2⟩:=hw;obtain⟨_,hw3,hw4⟩:=hw2 s jp
   have next:Rg w.1/\Ck x w.1/\w.1.servers[id.toNat]? =some s:=by
    rcases hw1 with ⟨_,e⟩| ⟨_,hpu⟩
    ·rw[e];exact⟨jI,jC,jp⟩
    ·exact⟨aap jI hpu,jC.trans (Vi hpu),Xx jI.ok hpu jp⟩
   refine .br (λha=> .ret ⟨(w.1,w.2.1),by rw[sw],hk,next.1,next.2.1,next.2.2,λhw5 j m hj hm=> ?_⟩) λ_=> .ret ⟨(w.1,false),by rw[sw],hk,next.1,next.2.1,next.2.2,nofun⟩
   have ckw: ∀ (m:Int),(∀t,c.servers[m.toNat]? =some t->t.config=s.config/\t.epoch=s.epoch)-> ∀t,w.1.servers[m.toNat]? =some t->t.config=s.config/\t.epoch=s.epoch:=λm hm t ht=>by
    rcases hw1 with ⟨_,e⟩| ⟨_,hpu⟩
    ·rw[e] at ht;exact hm t ht
    ·have ck:=Vi hpu;have hlt:=C5 ht;rw[ck.len] at hlt;obtain⟨t',t1,_,_,t4,t5,_⟩:=ck.srv _ _ (aq hlt);obtain rfl:=Option.some.inj (t1.symm.trans ht);obtain⟨e1,e2⟩:=hm _ (aq hlt);exact⟨t5.trans e1,t4.trans e2⟩
   by_cases hjk:j=k
   ·subst hjk;obtain rfl:=Option.some.inj (hz.symm.trans hm);refine⟨hw4 hw5,ckw z λt ht=> ?_⟩;rcases hw1 with ⟨e,_⟩| ⟨_,hpu⟩
    ·have hw5:w.2.1=true:=hw5;rw[e] at hw5;cases hw5
    ·obtain⟨u,q,n,u1,u2,q1,q2,_⟩:=hpu.ex;obtain rfl:u=s:=Option.some.inj (u1.symm.trans jp);obtain rfl:q=t:=Option.some.inj (q1.symm.trans ht);obtain⟨_,g2,_,g4,_⟩:=UP jI.ok (El jI.ok jI.valid) hpu.rid hpu.rm q2 u1 q1;exact⟨g4,g2⟩
   ·obtain⟨g1,g2⟩:=ja ha j m (by omega) hm;exact⟨hw3 m g1,ckw m g2⟩
  ·have hk: ¬ ((k:Int)< (M'.length:Int)):=of_decide_eq_false hk;obtain⟨j,hj,rfl⟩:=aU hm;exact ja e j _ (by omega) (aq hj)
 rintro _ ⟨c,a,cI,cC,cp,ca,rfl⟩
 have vcc:=El cI.ok cI.valid;refine .bind (.count (B:=GV) (E:=λe=> ∃S:List qj,Mk c.servers S s/\(a=false->S=c.servers)/\e.2.1=(fz,fc c,())/\e.2.2.1=S/\e.2.2.2=(c.sides,c.master.configs,c.places,())) (λk (S:List qj)=>((id,(),(),(),a,(k:Int),()),(fz,fc c,()),M',S,c.sides,c.master.configs,c.places,())) (λk S=>k<=M'.length/\Mk c.servers S s/\(a=false->S=c.servers)) (λk S hJ=> ?_) (b:=c.servers) ⟨bM _,⟨rfl,λj t ht=>⟨t,t.commit,ht,rfl,.inl rfl⟩⟩,λ_=>rfl⟩) ?_
 ·obtain⟨_,jM,ja⟩:=hJ;refine .br (λhk=> .br (λea=> .ip λ_=> .bd λz hz=> .ip λ_=> .bd λu hu=> .ip λ_=> .bd λq hq=> ?_) λ_=> .ret ⟨S,jM,ja,rfl,rfl,rfl⟩) λ_=> .ret ⟨S,jM,ja,rfl,rfl,rfl⟩;have hk:k<M'.length:=DE.1 (of_decide_eq_true hk);have hz:M'[k]? =some z:=hz;have hu:S[id.toNat]? =some u:=hu;have hq:S[z.toNat]? =some q:=hq;refine .ret ⟨S.set z.toNat ⟨q.up,q.intact,q.version,q.epoch,q.config,q.first,q.log,((u.log.length:Nat):Int),q.learned⟩,by rw[BG mm hk],hk,⟨by rw[DI];exact jM.1,λj t ht=> ?_⟩,λh=>by rw[h] at ea;cases ea⟩;by_cases hj:z.toNat=j
  ·subst hj;rw[DG (C5 hq)] at ht;obtain rfl:=Option.some.inj ht;obtain⟨v,n,v1,v2,_⟩:=jM.2 _ _ hq;obtain⟨p',n',p1,p2,_⟩:=jM.2 _ _ hu;obtain rfl:p'=s:=Option.some.inj (p1.symm.trans cp);refine⟨v,_,v1,by rw[v2],.inr ⟨by rw[p2],?_⟩⟩;exact ((ca ea z (aA hz)).2 v v1).1
  ·rw[DJ hj] at ht;exact jM.2 j t ht
 rintro⟨e1,e2,e3,e4⟩ ⟨S,hM,ha,g1,g2,g3⟩
 have g1:e2=(fz,fc c,()):=g1;have g2:e3=S:=g2;have g3:e4=(c.sides,c.master.configs,c.places,()):=g3;subst g1 g2 g3;refine .ret ?_;show Rg (K2 c e3);cases a with
 |false=>have h3:e3=c.servers:=ha rfl;rw[h3];exact cI
 |true=>
  have pf:=Hk oks hpn
  have memb: ∀ (j:Nat) t,c.servers[j]? =some t->t.config=s.config->(j:Int)∈M':=λj t ht hc=>by
   obtain⟨st,okt⟩:=JS cI.ok cI.valid ht;have hne:t.config≠⟨0,0,[],[]⟩:=by rw[hc];exact Nr (Fc (Ee oks.1) pf.1).2.2.2.1
   obtain⟨n,vs⟩:=OD okt st.val hne;obtain⟨n',n1,_,n3,_⟩:=Nd t.config (j:Int) (Ee okt.1) (by rw[hc];exact pf.1);obtain rfl:n'=n:=(Prod.mk.inj (Option.some.inj (n1.symm.trans vs.role))).1;exact (m6 pf.1 _).2 (by rw[<-hc];exact Classical.byContradiction λh=>vs.in' (n3.2 h))
  obtain⟨ok,hv⟩:=PS cI.ok cI.valid e3 hM.1 (λt ht=>by
   obtain⟨j,hj,rfl⟩:=aU ht;obtain⟨v,n,v1,v2,_⟩:=hM.2 j _ (aq hj);rw[v2];exact cI.ok.1.2 v (aA v1)) λj hj=>by
   obtain⟨v,n,v1,v2,v3⟩:=hM.2 j _ (aq hj);obtain⟨sv,okv⟩:=JS cI.ok cI.valid v1;rw[v2];rcases v3 with v3| ⟨v3,v4⟩
   ·rw[v3];exact⟨sv.val,sv.ep,sv.lrn,sv.cfg⟩
   ·have hne:v.config≠⟨0,0,[],[]⟩:=by rw[v4];exact Nr (Fc (Ee oks.1) pf.1).2.2.2.1
    obtain⟨r,vs⟩:=OD okv sv.val hne;have hlen:=((ca rfl _ (memb j v v1 v4)).1 v (by rw[DC];exact v1)).1;have vt:Vs ⟨v.up,v.intact,v.version,v.epoch,v.config,v.first,v.log,n,v.learned⟩ (j:Int) r:=⟨vs.ver,vs.ep,vs.log,vs.lrn,vs.first,vs.len,by show 0<=n/\n<=v.first+(v.log.length:Int);omega,vs.cfg,vs.intact,vs.le,vs.all,vs.role,vs.in',vs.wit,vs.rep⟩
    have he:=(Fc (Ee oks.1) pf.1).2.2.2.1;exact⟨XL (show ED 1048576 (⟨v.up,v.intact,v.version,v.epoch,v.config,v.first,v.log,n,v.learned⟩:qj) from okv) vt (by show 0<=v.config.epoch;rw[v4];omega),sv.ep,sv.lrn,sv.cfg⟩
  obtain⟨G,H,hh⟩:=cI.hist;refine⟨ok,hv,cI.old.same rfl λj t ht=> ?_,G,s.log,hh.commit cI.ok cI.valid cI.old ⟨h0,h5⟩ cp hpn m1 (λm hm t ht=> ?_) rfl λj t ht=> ?_⟩
  ·obtain⟨v,n,v1,v2,_⟩:=hM.2 j t ht;exact⟨v,v1,by rw[v2],by rw[v2]⟩
  ·obtain⟨g1,g2⟩:=ca rfl m hm;exact⟨(g2 t ht).1,(g2 t ht).2,(g1 t ht).1⟩
  ·obtain⟨v,n,v1,v2,v3⟩:=hM.2 j t ht;exact⟨v,v1,by rw[v2],by rw[v2],by rw[v2],by rw[v2],by rw[v2];exact v3⟩
theorem XY{x:qg}(h:Rg x)(id:Int)(o:Op):Ev (λy=>Rg y.1) (I8 x id o):=by unfold I8;refine .bind (XV h id o) λy hy=> .brn (λ_=> ?_) λ_=> .ret hy;refine .ip λ_=> .bd λ_ _=> .bd λ_ _=> .ip λ_=> .bd λ_ _=> .ip λ_=> .bd λ_ _=> .br (λ_=> .bind (Vt hy id) λz hz=> .brn (λ_=> .ip λ_=> .bd λ_ _=> .bd λ_ _=> .ip λ_=> .bd λ_ _=> .ret hz) λ_=> .ret hz) λ_=> .ip λ_=> .bd λ_ _=> .bd λ_ _=> .ip λ_=> .bd λ_ _=> .ret hy
theorem Rg.free{x:qg}(h:Rg x):Rg ⟨x.now,x.servers,x.sides,x.master,x.masterUp,⟨0,0,0⟩,x.places⟩:=by have vc:=El h.ok h.valid;obtain⟨_,f2,_⟩:=II (Ff h.ok.2.2.1) vc.ml;exact h.rest x.now x.masterUp x.sides ⟨0,0,0⟩ vc.now vc.up h.ok.2.1 vc.sides rfl f2
theorem Yw{x:qg}(h:Rg x)(to:Int):Ev (λy=>Rg y.1) (GH x to):=by obtain⟨c,b,c1,c2,c3⟩:=SF x h.ok;obtain⟨r5,w5,_⟩:=c3 (El h.ok h.valid);unfold GH;rw[(EG x h.ok).1,ao];refine .bd λn hn=> .brn (λ_=> ?_) λ_=> .ret h;rw[c1,ao];exact .bind (Vt h c.primary) λy hy=> .bind (Rp hy.free (n:=⟨_,to,c.replicas,c.witnesses⟩) ⟨by show c.replicas.length<=_;omega,by show c.witnesses.length<=_;omega⟩) λz hz=> .bind (Pn hz) λw hw=> .ret hw
theorem Yl{x:qg}(h:Rg x)(want term:Int):Ev (λy=>Rg y.1) (Hs x want term):=by unfold Hs;rw[(EG x h.ok).1,ao];exact .bd λ_ _=> .brn (λ_=> .bd λ_ _=> .brn (λ_=> .bd λs hs=> .br (λes=> .ret h) λ_=> .bind (λy hy=>(VK x h.ok want 0).is hy) λn hn=> .brn (λ_=> .bind (Rp h hn) λy hy=> .brn (λ_=> .bd λ_ _=> .bind (Zf hy _) λz hz=> .brn (λ_=> .bind (Pn hz) λa ha=> .brn (λe9=> .bind (Xy ha _ _) λr hr=> .ret hr) λhn=> .ret ha) λhn=> .ret h) λhn=> .ret h) λ_=> .ret h) λ_=> .ret h) λ_=> .ret h
theorem aaw{x:qg}(h:Rg x)(e:wN):Ev (λy=>Rg y.1) (J2 x e):=by unfold J2;refine .br (λ_=> .bind (Xy h _ _) λy hy=> .ret hy) λ_=> .br (λ_=> .bind (λy hy=>(VK x h.ok _ _).is hy) λn hn=> .brn (λ_=> .bind (Rp h hn) λy hy=> .ret hy) λ_=> ?_) λ_=> .br (λ_=> .bind (Pn h) λy hy=> .ret hy) λ_=> .br (λ_=> .bind (Zq h _) λy hy=> .ret hy) λ_=> .br (λ_=> .bind (XA h _) λy hy=> .ret hy) λ_=> .br (λ_=> .bind (aac h _) λy hy=> .ret hy) λ_=> .br (λ_=> .bind (aak h _ _) λy hy=> .ret hy) λ_=> .br (λ_=> .bind (Xp h _) λy hy=> .ret hy) λ_=> .br (λ_=> .bind (Zf h _) λy hy=> .ret hy) λ_=> .br (λ_=> .bind (Zn h _ _ _) λy hy=> .br (λ_=> .ret hy) λ_=> .ret hy) λ_=> .br (λ_=> .bind (XN h _) λy hy=> .ret hy) λ_=> .br (λ_=> .bind (UL h _) λy hy=> .ret hy) λ_=> .br (λ_=> .bind (Yw h _) λy hy=> .ret hy) λ_=> .bind (Yl h _ _) λy hy=> .ret hy;rw[(EG x h.ok).1];exact .ret h
theorem SD{x:qg}(h:Rg x)(e:wN):Ev (λy=>Rg y.1) (HT x e):=by unfold HT;rw[(EG x h.ok).1];exact .bd λ_ _=> .brn (λ_=> .bd λ_ _=> .brn (λ_=> .br (λ_=> .bind (XY h _ _) λy hy=> .ret hy) λ_=> .br (λ_=> .bind (Q:=λy=>Rg y.1) (.ret h) λy hy=> .bd λ_ _=> .ret hy) λ_=> .bind (aaw h e) λy hy=> .ret hy) λ_=> .ret h) λ_=> .ret h
theorem Vk{x:qg}(h:Rg x)(l:List wN):Ev (λy=>Rg y.1) (HK x l):=by
 unfold HK;rw[(EG x h.ok).1,ao];refine .bind (.loop (B:=IM) (E:=λe=> ∃ (c:qg) (r:List wR),Rg c/\e=(((),(),(),()),(fz,fc c,()),r,c.servers,c.sides,c.master.configs,c.places,())) (λs=> ∃ (c:qg),Rg c/\s.2.1=(fz,fc c,())/\s.2.2.2=(c.servers,c.sides,c.master.configs,c.places,())) (λs hs=> ?_) ⟨x,h,rfl,rfl⟩) ?_
 ·obtain⟨a,b,r,d⟩:=s;obtain⟨c,hc,i1,i2⟩:=hs;obtain rfl:b=_:=i1;obtain rfl:d=_:=i2;exact .br (λ_=> .br (λ_=> .ip λ_=> .bd λe _=> .bind (SD hc e) λy hy=> .ip λ_=> .ret ⟨y.1,hy,rfl,rfl⟩) λ_=> .ret ⟨c,r,hc,rfl⟩) λ_=> .ret ⟨c,r,hc,rfl⟩
 ·rintro _ ⟨c,r,hc,rfl⟩
  exact .ret hc
theorem aaE(l:List uN)(hl:l.length<=1048576)(hp:ES l=some (true,())):Ev (λy=>Rg y.1) (HS l):=by
 unfold HS;rw[hp,ao];refine .brn (λ_=> .ip λ_=> .ip λ_=> .bind (.count (B:=Il) (E:=λe=>e=(((),(),()),(fz,(0,(),(),(),0,3,0,0,0,(),()),()),List.replicate 5 ⟨true,true,1,0,⟨0,0,[],[]⟩,0,[],0,[]⟩,List.replicate (5:Int).toNat (0:Int),[] ++l,())) (λk (S:List qj)=>(((),(),(k:Int),()),(fz,(0,(),(),(),0,3,0,0,0,(),()),()),S,List.replicate (5:Int).toNat (0:Int),[] ++l,())) (λk S=>k<=5/\S=List.replicate k ⟨true,true,1,0,⟨0,0,[],[]⟩,0,[],0,[]⟩) (λk S hJ=> ?_) (b:=[]) ⟨by decide,rfl⟩) ?_) nofun
 ·refine .br (λhk=> .bd λs hs=> .ip λ_=> .ret ⟨S++ [s.1],by rw[BG (n:=5) (by decide) (DE.1 (of_decide_eq_true hk))],DE.1 (of_decide_eq_true hk),?_⟩) λhk=> .ret ?_
  ·have hs:some ((⟨true,true,1,0,⟨0,0,[],[]⟩,0,[],0,[]⟩:qj),())=some s:=hs;rw[<-Option.some.inj hs,hJ.2,List.replicate_succ']
  ·have : ¬ ((k:Int)<5):=of_decide_eq_false hk;obtain rfl:k=5:=by omega
   rw[hJ.2];rfl
 ·rintro _ rfl
  refine .ret ?_;rw[bF];have ok:Ew 1048576 (⟨0,List.replicate 5 ⟨true,true,1,0,⟨0,0,[],[]⟩,0,[],0,[]⟩,List.replicate (5:Int).toNat (0:Int),⟨[],0⟩,3,⟨0,0,0⟩,l⟩:qg):=⟨⟨by show (List.replicate 5 _).length<=_;rw[List.length_replicate];decide,λs hs=>by rw[D6 hs];exact⟨⟨bM _,bM _⟩,bM _,bM _⟩⟩,by show (List.replicate (5:Int).toNat (0:Int)).length<=_;decide,⟨bM _,nofun⟩,hl⟩
  have hm:Eo ⟨[],0⟩=some (true,()):=ZF (bM _) (λk hk=>absurd hk (DQ k)) ⟨cU _,cU _⟩;obtain⟨v,v1,v2⟩:=VP (List.replicate (5:Int).toNat (0:Int)) rfl (λz hz=>by rw[D6 hz];decide);have all: ∀ (k:Nat) s,(List.replicate 5 (⟨true,true,1,0,⟨0,0,[],[]⟩,0,[],0,[]⟩:qj))[k]? =some s->s=⟨true,true,1,0,⟨0,0,[],[]⟩,0,[],0,[]⟩:=λk s h=>D6 (aA h)
  have sv: ∀k (hk:k< (List.replicate 5 (⟨true,true,1,0,⟨0,0,[],[]⟩,0,[],0,[]⟩:qj)).length),SV ⟨[],0⟩ (List.replicate 5 (⟨true,true,1,0,⟨0,0,[],[]⟩,0,[],0,[]⟩:qj))[k] (k:Int):=λk hk=>by rw[List.getElem_replicate];exact (XQ ok.2.2.1 hm (by decide)).2
  refine⟨ok,QE ok (by show (0:Int)<=0/\(0:Int)<=999;decide) List.length_replicate (v1.trans (congrArg some (Prod.ext v2 rfl))) hm (by show (0:Int)<=3/\(3:Int)<=3;decide) rfl hp (cU _) sv,λk p hp hc=>absurd (by rw[all k p hp]) hc,λ_=> [],[],⟨λk s hs hc=>absurd (by rw[all k s hs]) hc,λ_ i j a b h=>by simp at h,λk s hs=>by rw[all k s hs];exact .nil _,.nil _,λ_=>rfl⟩⟩
end
end Go.Proofs.YtkghndikalnipacGreat.En

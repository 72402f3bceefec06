import Derived.Test.YtpmjplpnpnmlcaaGreatDoorIf1
import Derived.Test.YtpmjplpnpnmlcaaGreatDoorIf2
import Derived.Test.YtpmjplpnpnmlcaaGreatDoorIf3
import Derived.Test.YtpmjplpnpnmlcaaGreatDoorIf4
import Derived.Test.YtpmjplpnpnmlcaaGreatDoorIf5
import Derived.Test.YtpmjplpnpnmlcaaGreatDoorIf6
import Derived.Test.YtpmjplpnpnmlcaaGreatDoorIf7
import Derived.Test.YtpmjplpnpnmlcaaGreatDoorIf8
import Derived.Test.YtpmjplpnpnmlcaaGreatDoorIf9
import Derived.KernelRfl
set_option linter.all false
namespace Go.Proofs.YtpmjplpnpnmlcaaGreatDoor
open Go.AE
theorem q171 : BOk C sg 171 (.o fun xs => (orcContains) ⟨sl [dS, dS], []⟩ xs) := by
  intro xs r h n
  show (match C.orc 272 _ _ with | some r => some (true, r) | none => _) = _
  rw [show C.orc 272 _ xs = some r from h]
theorem q223 : BOk C sg 223 (.o fun xs => (orcCut) ⟨sl [dS, dS], []⟩ xs) := by
  intro xs r h n
  show (match C.orc 266 _ _ with | some r => some (true, r) | none => _) = _
  rw [show C.orc 266 _ xs = some r from h]
theorem q300 : BOk C sg 300 (.o fun xs => (orcItoa) ⟨sl [dI], []⟩ xs) := by
  intro xs r h n
  show (match C.orc 107 _ _ with | some r => some (true, r) | none => _) = _
  rw [show C.orc 107 _ xs = some r from h]
noncomputable def bdT : List (List Bd) := [[.p p0, .p p1, .p p2, .p p3, .p p4, .p p5, .p p6, .p p7, .p p8, .p p9, .p p10, .p p11, .p p12, .p p13, .p p14, .p p15],
  [.p p16, .p p17, .p p18, .p p19, .p p20, .p p21, .p p22, .p p23, .p p24, .p p25, .p p26, .p p27, .p p28, .p p29, .p p30, .p p31],
  [.p p32, .p p33, .p p34, .p p35, .p p36, .p p37, .p p38, .p p39, .p p40, .p p41, .p p42, .p p43, .p p44, .p p45, .p p46, .p p47],
  [.p p48, .p p49, .p p50, .p p51, .p p52, .p p53, .p p54, .p p55, .p p56, .p p57, .p p58, .p p59, .p p60, .p p61, .p p62, .p p63],
  [.p p64, .p p65, .p p66, .p p67, .p p68, .p p69, .p p70, .p p71, .p p72, .p p73, .p p74, .p p75, .p p76, .p p77, .p p78, .p p79],
  [.p p80, .p p81, .p p82, .p p83, .p p84, .p p85, .p p86, .p p87, .p p88, .p p89, .p p90, .p p91, .p p92, .p p93, .p p94, .p p95],
  [.p p96, .p p97, .p p98, .p p99, .p p100, .p p101, .p p102, .p p103, .p p104, .p p105, .p p106, .p p107, .p p108, .p p109, .p p110, .p p111],
  [.p p112, .p p113, .p p114, .p p115, .p p116, .p p117, .p p118, .p p119, .p p120, .p p121, .p p122, .p p123, .p p124, .p p125, .p p126, .p p127],
  [.p p128, .p p129, .p p130, .p p131, .p p132, .p p133, .p p134, .p p135, .p p136, .p p137, .p p138, .p p139, .p p140, .p p141, .p p142, .p p143],
  [.p p144, .p p145, .p p146, .p p147, .p p148, .p p149, .p p150, .p p151, .p p152, .p p153, .p p154, .p p155, .p p156, .p p157, .p p158, .p p159],
  [.p p160, .p p161, .p p162, .p p163, .p p164, .p p165, .p p166, .p p167, .p p168, .p p169, .p p170, .o fun xs => (orcContains) ⟨sl [dS, dS], []⟩ xs, .p p172, .p p173, .p p174, .p p175],
  [.p p176, .p p177, .p p178, .p p179, .p p180, .p p181, .p p182, .p p183, .p p184, .p p185, .p p186, .p p187, .p p188, .p p189, .p p190, .p p191],
  [.p p192, .p p193, .p p194, .p p195, .p p196, .p p197, .p p198, .p p199, .p p200, .p p201, .p p202, .p p203, .p p204, .p p205, .p p206, .p p207],
  [.p p208, .p p209, .p p210, .p p211, .p p212, .p p213, .p p214, .p p215, .p p216, .p p217, .p p218, .p p219, .p p220, .p p221, .p p222, .o fun xs => (orcCut) ⟨sl [dS, dS], []⟩ xs],
  [.p p224, .p p225, .p p226, .p p227, .p p228, .p p229, .p p230, .p p231, .p p232, .p p233, .p p234, .p p235, .p p236, .p p237, .p p238, .p p239],
  [.p p240, .p p241, .p p242, .p p243, .p p244, .p p245, .p p246, .p p247, .p p248, .p p249, .p p250, .p p251, .p p252, .p p253, .p p254, .p p255],
  [.p p256, .p p257, .p p258, .p p259, .p p260, .p p261, .p p262, .p p263, .p p264, .p p265, .p p266, .p p267, .p p268, .p p269, .p p270, .p p271],
  [.p p272, .p p273, .p p274, .p p275, .p p276, .p p277, .p p278, .p p279, .p p280, .p p281, .p p282, .p p283, .p p284, .p p285, .p p286, .p p287],
  [.p p288, .p p289, .p p290, .p p291, .p p292, .p p293, .p p294, .p p295, .p p296, .p p297, .p p298, .p p299, .o fun xs => (orcItoa) ⟨sl [dI], []⟩ xs, .p p301, .p p302, .p p303],
  [.p p304, .p p305, .p p306, .p p307, .p p308, .p p309, .p p310, .p p311, .p p312, .p p313, .p p314, .p p315, .p p316, .p p317, .p p318, .p p319],
  [.p p320, .p p321, .p p322, .p p323, .p p324, .p p325, .p p326, .p p327, .p p328, .p p329, .p p330, .p p331, .p p332, .p p333, .p p334, .p p335],
  [.p p336, .p p337, .p p338, .p p339, .p p340, .p p341, .p p342, .p p343, .p p344, .p p345, .p p346, .p p347, .p p348, .p p349, .p p350, .p p351],
  [.p p352, .p p353, .p p354, .p p355, .p p356, .p p357, .p p358, .p p359, .p p360, .p p361, .p p362, .n, .p p364, .p p365, .p p366, .p p367],
  [.p p368, .p p369, .p p370, .p p371, .p p372, .p p373, .p p374, .p p375, .p p376, .p p377, .p p378, .p p379, .p p380, .p p381, .p p382, .p p383],
  [.p p384, .p p385, .p p386, .p p387, .p p388, .p p389, .p p390, .p p391, .p p392, .p p393, .p p394, .p p395, .p p396, .p p397, .p p398, .p p399],
  [.p p400, .p p401, .p p402, .p p403, .p p404, .p p405, .p p406, .p p407, .p p408, .p p409, .p p410, .p p411, .p p412, .p p413, .p p414, .p p415],
  [.p p416, .p p417, .p p418, .p p419, .p p420, .p p421, .p p422, .p p423, .p p424, .p p425, .p p426, .p p427, .p p428, .p p429, .p p430, .p p431],
  [.p p432, .p p433, .p p434, .p p435, .p p436, .p p437, .p p438, .p p439, .p p440, .p p441, .p p442, .p p443, .p p444, .p p445, .p p446, .p p447],
  [.p p448, .p p449, .p p450, .p p451, .p p452, .p p453, .p p454]]
noncomputable def bd : Nat → Bd := bdAt bdT
theorem bd_ok : ∀ f, BOk C sg f (bd f) := bdAt_ok ⟨⟨q0, q1, q2, q3, q4, q5, q6, q7, q8, q9, q10, q11, q12, q13, q14, q15, trivial⟩, ⟨q16, q17, q18, q19, q20, q21, q22, q23, q24, q25, q26, q27, q28, q29, q30, q31, trivial⟩, ⟨q32, q33, q34, q35, q36, q37, q38, q39, q40, q41, q42, q43, q44, q45, q46, q47, trivial⟩, ⟨q48, q49, q50, q51, q52, q53, q54, q55, q56, q57, q58, q59, q60, q61, q62, q63, trivial⟩, ⟨q64, q65, q66, q67, q68, q69, q70, q71, q72, q73, q74, q75, q76, q77, q78, q79, trivial⟩, ⟨q80, q81, q82, q83, q84, q85, q86, q87, q88, q89, q90, q91, q92, q93, q94, q95, trivial⟩, ⟨q96, q97, q98, q99, q100, q101, q102, q103, q104, q105, q106, q107, q108, q109, q110, q111, trivial⟩, ⟨q112, q113, q114, q115, q116, q117, q118, q119, q120, q121, q122, q123, q124, q125, q126, q127, trivial⟩, ⟨q128, q129, q130, q131, q132, q133, q134, q135, q136, q137, q138, q139, q140, q141, q142, q143, trivial⟩, ⟨q144, q145, q146, q147, q148, q149, q150, q151, q152, q153, q154, q155, q156, q157, q158, q159, trivial⟩, ⟨q160, q161, q162, q163, q164, q165, q166, q167, q168, q169, q170, q171, q172, q173, q174, q175, trivial⟩, ⟨q176, q177, q178, q179, q180, q181, q182, q183, q184, q185, q186, q187, q188, q189, q190, q191, trivial⟩, ⟨q192, q193, q194, q195, q196, q197, q198, q199, q200, q201, q202, q203, q204, q205, q206, q207, trivial⟩, ⟨q208, q209, q210, q211, q212, q213, q214, q215, q216, q217, q218, q219, q220, q221, q222, q223, trivial⟩, ⟨q224, q225, q226, q227, q228, q229, q230, q231, q232, q233, q234, q235, q236, q237, q238, q239, trivial⟩, ⟨q240, q241, q242, q243, q244, q245, q246, q247, q248, q249, q250, q251, q252, q253, q254, q255, trivial⟩, ⟨q256, q257, q258, q259, q260, q261, q262, q263, q264, q265, q266, q267, q268, q269, q270, q271, trivial⟩, ⟨q272, q273, q274, q275, q276, q277, q278, q279, q280, q281, q282, q283, q284, q285, q286, q287, trivial⟩, ⟨q288, q289, q290, q291, q292, q293, q294, q295, q296, q297, q298, q299, q300, q301, q302, q303, trivial⟩, ⟨q304, q305, q306, q307, q308, q309, q310, q311, q312, q313, q314, q315, q316, q317, q318, q319, trivial⟩, ⟨q320, q321, q322, q323, q324, q325, q326, q327, q328, q329, q330, q331, q332, q333, q334, q335, trivial⟩, ⟨q336, q337, q338, q339, q340, q341, q342, q343, q344, q345, q346, q347, q348, q349, q350, q351, trivial⟩, ⟨q352, q353, q354, q355, q356, q357, q358, q359, q360, q361, q362, trivial, q364, q365, q366, q367, trivial⟩, ⟨q368, q369, q370, q371, q372, q373, q374, q375, q376, q377, q378, q379, q380, q381, q382, q383, trivial⟩, ⟨q384, q385, q386, q387, q388, q389, q390, q391, q392, q393, q394, q395, q396, q397, q398, q399, trivial⟩, ⟨q400, q401, q402, q403, q404, q405, q406, q407, q408, q409, q410, q411, q412, q413, q414, q415, trivial⟩, ⟨q416, q417, q418, q419, q420, q421, q422, q423, q424, q425, q426, q427, q428, q429, q430, q431, trivial⟩, ⟨q432, q433, q434, q435, q436, q437, q438, q439, q440, q441, q442, q443, q444, q445, q446, q447, trivial⟩, ⟨q448, q449, q450, q451, q452, q453, q454, trivial⟩, trivial⟩
end Go.Proofs.YtpmjplpnpnmlcaaGreatDoor

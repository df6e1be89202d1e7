/- The law TtyRights, as the printed row asks it: proved in YtgcmhfoegbaaiaaMyTtyL1. -/
import Derived.Test.YtgcmhfoegbaaiaaMyTtyL1
